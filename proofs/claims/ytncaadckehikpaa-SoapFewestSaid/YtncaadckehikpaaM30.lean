/- A part of the proof: contracts of functions and plain facts (Q28). No condition. -/
import Derived.Test.YtncaadckehikpaaM3
import Derived.Test.YtncaadckehikpaaM26
import Derived.Test.YtncaadckehikpaaM11
import Derived.Test.YtncaadckehikpaaM12
import Derived.Test.YtncaadckehikpaaM18
import Derived.Test.YtncaadckehikpaaM25
import Derived.Test.YtncaadckehikpaaM29
import Derived.Test.YtncaadckehikpaaM23
namespace Go.Proofs.Ytncaadckehikpaa.Q
open Go.RowKit Go.Proofs.YtncaadckehikpaaW.PrintWords Go.Proofs.YtncaadckehikpaaW.PrintLast Go.Proofs.YtncaadckehikpaaW.PrintMore
attribute [local go_sem] z38 z37 max_two min_two   -- for this text's walks alone
set_option linter.unusedVariables false
set_option linter.unusedSimpArgs false
attribute [local go_sem high] eqA44
/-! ### pl_SoapFewest: function 5 -/
def pl_SoapFewest.f (k : Nat) (a0_0 : Int) (l0_1 : List (S91)) (l0_2 : List (S94)) : Option (Bool) := (pl_Thin.f a0_0 l0_1 l0_2).bind fun t336 => (if t336 = true then ((pl_Slate.f k a0_0 l0_1 l0_2).bind fun bt338 => ((soap_Fewest.f bt338.1 bt338.2.1 bt338.2.2).bind fun bt345 => ((pl_sure.f k a0_0 l0_1 l0_2).bind fun bt349 => (if bt349.2 = 0 then (if bt345.2.2 = 0 then ((pr_Fewest.f k a0_0 l0_1 l0_2 bt349.1).bind fun bt353 => ((pl_to.f bt353.1 bt353.2).bind fun bt355 => (if (bt345.1 == bt355.1 && (bt345.2.1 == bt355.2)) = true then ((pl_awake.f).bind fun t357 => (some t357)) else (some false)))) else (some false)) else (if bt345.2.2 = bt349.2 then (if (bt345.1 == 0 && (bt345.2.1 == 0)) = true then ((pl_awake.f).bind fun t358 => (some t358)) else (some false)) else (some false)))))) else ((pl_awake.f).bind fun t337 => (some t337)))
def pl_SoapFewest.T7 : Bool × List (List Nat × List Nat) := (true, [([], []), ([0], [0]), ([1], [1]), ([2], [2]), ([2], [2]), ([2], [2]), ([4, 5, 2, 2], [2, 4, 5]), ([6, 6, 2], [2, 6]), ([3, 7, 2], [2, 3, 7]), ([2, 8], [2, 8]), ([9, 7], [9]), ([10, 10], [10]), ([10, 11], [10, 11]), ([12, 11, 0, 1, 2, 3, 4, 5, 6, 7, 8, 9, 10, 11, 12], [12])])
def pl_SoapFewest.B7 : List Nat := [0, 1, 3, 7, 7, 7, 55, 119, 255, 511, 1023, 2047, 4095, 8191]
theorem pl_SoapFewest.tab7 : rtab .any (opsOf Try.f5 7) = pl_SoapFewest.T7 := by kernel_rfl
theorem pl_SoapFewest.bits7 : waitsOk pl_SoapFewest.T7.2 pl_SoapFewest.B7 = true := by kernel_rfl
set_option maxHeartbeats 8000000 in
set_option maxRecDepth 100000 in
theorem pl_SoapFewest.calls (k : Nat) (a0_0 : Int) (A0_1 : Option Addr) (c0_1 : Nat) (l0_1 : List (S91)) (A0_2 : Option Addr) (c0_2 : Nat) (l0_2 : List (S94)) (r : Bool) (w : World) (hr0_1 : Kd.C k91 w A0_1 l0_1.length l0_1) (hc0_1 : l0_1.length ≤ c0_1) (hr0_2 : Kd.C k94 w A0_2 l0_2.length l0_2) (hc0_2 : l0_2.length ≤ c0_2) (h : pl_SoapFewest.f k a0_0 l0_1 l0_2 = some r) :
  Calls Try.prog 5 #[.agg #[.int .i64 a0_0, .slice A0_1 l0_1.length c0_1, .slice A0_2 l0_2.length c0_2]] w fun e w' => e = .returned (.bool r) ∧ Below w.heap.size w w' := by
 have hu25 := Try.underlying25
 have hu44 := Try.underlying44
 have HR0_1 := mkA hr0_1
 have HC0_1 := mkA hc0_1
 clear hr0_1 hc0_1
 have HR0_2 := mkA hr0_2
 have HC0_2 := mkA hc0_2
 clear hr0_2 hc0_2
 have HB := mkA (Below.refl w.heap.size w)
 have H : ((pl_Thin.f a0_0 l0_1 l0_2).bind fun t336 => (if t336 = true then ((pl_Slate.f k a0_0 l0_1 l0_2).bind fun bt338 => ((soap_Fewest.f bt338.1 bt338.2.1 bt338.2.2).bind fun bt345 => ((pl_sure.f k a0_0 l0_1 l0_2).bind fun bt349 => (if bt349.2 = 0 then (if bt345.2.2 = 0 then ((pr_Fewest.f k a0_0 l0_1 l0_2 bt349.1).bind fun bt353 => ((pl_to.f bt353.1 bt353.2).bind fun bt355 => (if (bt345.1 == bt355.1 && (bt345.2.1 == bt355.2)) = true then ((pl_awake.f).bind fun t357 => (some t357)) else (some false)))) else (some false)) else (if bt345.2.2 = bt349.2 then (if (bt345.1 == 0 && (bt345.2.1 == 0)) = true then ((pl_awake.f).bind fun t358 => (some t358)) else (some false)) else (some false)))))) else ((pl_awake.f).bind fun t337 => (some t337)))) = some r := h
 clear h
 replace H := Option.bind_eq_some_iff.mp H
 obtain ⟨t336, A20, H⟩ := H
 replace H : (if t336 = true then ((pl_Slate.f k a0_0 l0_1 l0_2).bind fun bt338 => ((soap_Fewest.f bt338.1 bt338.2.1 bt338.2.2).bind fun bt345 => ((pl_sure.f k a0_0 l0_1 l0_2).bind fun bt349 => (if bt349.2 = 0 then (if bt345.2.2 = 0 then ((pr_Fewest.f k a0_0 l0_1 l0_2 bt349.1).bind fun bt353 => ((pl_to.f bt353.1 bt353.2).bind fun bt355 => (if (bt345.1 == bt355.1 && (bt345.2.1 == bt355.2)) = true then ((pl_awake.f).bind fun t357 => (some t357)) else (some false)))) else (some false)) else (if bt345.2.2 = bt349.2 then (if (bt345.1 == 0 && (bt345.2.1 == 0)) = true then ((pl_awake.f).bind fun t358 => (some t358)) else (some false)) else (some false)))))) else ((pl_awake.f).bind fun t337 => (some t337))) = some r := H
 have A2 := mkA A20
 clear A20
 by_cases c3 : t336 = true
 ·subst c3
  have H1 : ((pl_Slate.f k a0_0 l0_1 l0_2).bind fun bt338 => ((soap_Fewest.f bt338.1 bt338.2.1 bt338.2.2).bind fun bt345 => ((pl_sure.f k a0_0 l0_1 l0_2).bind fun bt349 => (if bt349.2 = 0 then (if bt345.2.2 = 0 then ((pr_Fewest.f k a0_0 l0_1 l0_2 bt349.1).bind fun bt353 => ((pl_to.f bt353.1 bt353.2).bind fun bt355 => (if (bt345.1 == bt355.1 && (bt345.2.1 == bt355.2)) = true then ((pl_awake.f).bind fun t357 => (some t357)) else (some false)))) else (some false)) else (if bt345.2.2 = bt349.2 then (if (bt345.1 == 0 && (bt345.2.1 == 0)) = true then ((pl_awake.f).bind fun t358 => (some t358)) else (some false)) else (some false)))))) = some r := by rw [if_pos rfl] at H; exact H
  clear H
  have H := H1
  clear H1
  replace H := Option.bind_eq_some_iff.mp H
  obtain ⟨⟨t338, t339, t342⟩, A40, H⟩ := H
  replace H : ((soap_Fewest.f t338 t339 t342).bind fun bt345 => ((pl_sure.f k a0_0 l0_1 l0_2).bind fun bt349 => (if bt349.2 = 0 then (if bt345.2.2 = 0 then ((pr_Fewest.f k a0_0 l0_1 l0_2 bt349.1).bind fun bt353 => ((pl_to.f bt353.1 bt353.2).bind fun bt355 => (if (bt345.1 == bt355.1 && (bt345.2.1 == bt355.2)) = true then ((pl_awake.f).bind fun t357 => (some t357)) else (some false)))) else (some false)) else (if bt345.2.2 = bt349.2 then (if (bt345.1 == 0 && (bt345.2.1 == 0)) = true then ((pl_awake.f).bind fun t358 => (some t358)) else (some false)) else (some false))))) = some r := H
  have A4 := mkA A40
  clear A40
  replace H := Option.bind_eq_some_iff.mp H
  obtain ⟨⟨t345, t346, t347⟩, A50, H⟩ := H
  replace H : ((pl_sure.f k a0_0 l0_1 l0_2).bind fun bt349 => (if bt349.2 = 0 then (if t347 = 0 then ((pr_Fewest.f k a0_0 l0_1 l0_2 bt349.1).bind fun bt353 => ((pl_to.f bt353.1 bt353.2).bind fun bt355 => (if (t345 == bt355.1 && (t346 == bt355.2)) = true then ((pl_awake.f).bind fun t357 => (some t357)) else (some false)))) else (some false)) else (if t347 = bt349.2 then (if (t345 == 0 && (t346 == 0)) = true then ((pl_awake.f).bind fun t358 => (some t358)) else (some false)) else (some false)))) = some r := H
  have A5 := mkA A50
  clear A50
  replace H := Option.bind_eq_some_iff.mp H
  obtain ⟨⟨t349, t352⟩, A60, H⟩ := H
  replace H : (if t352 = 0 then (if t347 = 0 then ((pr_Fewest.f k a0_0 l0_1 l0_2 t349).bind fun bt353 => ((pl_to.f bt353.1 bt353.2).bind fun bt355 => (if (t345 == bt355.1 && (t346 == bt355.2)) = true then ((pl_awake.f).bind fun t357 => (some t357)) else (some false)))) else (some false)) else (if t347 = t352 then (if (t345 == 0 && (t346 == 0)) = true then ((pl_awake.f).bind fun t358 => (some t358)) else (some false)) else (some false))) = some r := H
  have A6 := mkA A60
  clear A60
  by_cases c7 : t352 = 0
  ·rw [if_pos c7] at H
   have c7b0 : (t352 == 0) = true := beq_iff_eq.mpr c7
   have c7b1 : (t352 != 0) = false := bne_eq_false_iff_eq.mpr c7
   clear c7
   by_cases c8 : t347 = 0
   ·rw [if_pos c8] at H
    have c8b0 : (t347 == 0) = true := beq_iff_eq.mpr c8
    have c8b1 : (t347 != 0) = false := bne_eq_false_iff_eq.mpr c8
    clear c8
    replace H := Option.bind_eq_some_iff.mp H
    obtain ⟨⟨t353, t354⟩, A90, H⟩ := H
    replace H : ((pl_to.f t353 t354).bind fun bt355 => (if (t345 == bt355.1 && (t346 == bt355.2)) = true then ((pl_awake.f).bind fun t357 => (some t357)) else (some false))) = some r := H
    have A9 := mkA A90
    clear A90
    replace H := Option.bind_eq_some_iff.mp H
    obtain ⟨⟨t355, t356⟩, A100, H⟩ := H
    replace H : (if (t345 == t355 && (t346 == t356)) = true then ((pl_awake.f).bind fun t357 => (some t357)) else (some false)) = some r := H
    have A10 := mkA A100
    clear A100
    by_cases c11 : (t345 == t355 && (t346 == t356)) = true
    ·rw [if_pos c11] at H
     have c11b0 : (t345 == t355 && (t346 == t356)) = true := c11
     (try (have c11b1 : decide (t345 = t355 && (t346 == t356)) = true := by simpa using c11))
     (try (have c11b2 : (t345 == t355 && (t346 == t356)) = true := by simpa using c11))
     clear c11
     replace H := Option.bind_eq_some_iff.mp H
     obtain ⟨t357, A120, H⟩ := H
     replace H : (some t357) = some r := H
     have A12 := mkA A120
     clear A120
     obtain rfl := Option.some.inj H
     go_enter Try.func5, Try.ntmps5
     try go_wp2_with (first | ((with_reducible refine z26 (N := 1) rfl ?_); refine z25 ?hg (N := 1) ?hd (cs := #[.int .i64 a0_0, .slice A0_1 l0_1.length c0_1, .slice A0_2 l0_2.length c0_2]) (t := 25) ?hr ?_; (case hd => rfl); (case hg => rfl); (case hr => first | (go_simp; done) | (go_simp; rfl)); intro gb335 hg w13 hbox hb; have n0_ := mkA (z17 (by repeat (first | (with_reducible first | exact HB.out | apply z11 | apply z10 | apply z12) | exact HB.out)) hb); have n1_ := mkA (hbox); have n2_ := mkA ((by rw [hg]; exact (z18 (by repeat (first | (with_reducible first | exact HB.out | apply z11 | apply z10 | apply z12) | exact HB.out))) : w.heap.size ≤ gb335)); have n3_ := mkA ((by rw [hg]; exact (z18 (by repeat (first | (with_reducible first | exact HB.out | apply z11 | apply z10 | apply z12) | exact HB.out))) : w.heap.size ≤ gb335)); clear HB; have HB := n0_; have BK335 := n1_; have GW335 := n2_; have GE335 := n3_; clear n0_ n1_ n2_ n3_; clear hb hbox hg; have hcz14_0 : w13.cell? ⟨gb335, 0, none⟩ = some (.int .i64 a0_0) := (z13 BK335.out 0).trans rfl; have hcz14_1 : w13.cell? ⟨gb335, 1, none⟩ = some (.slice A0_1 l0_1.length c0_1) := (z13 BK335.out 1).trans rfl; have hcz14_2 : w13.cell? ⟨gb335, 2, none⟩ = some (.slice A0_2 l0_2.length c0_2) := (z13 BK335.out 2).trans rfl; have hfz14_0 := z14 BK335.out 0; have hfz14_1 := z14 BK335.out 1; have hfz14_2 := z14 BK335.out 2) | ((with_reducible refine z24 (f := 20) rfl ?_); refine goesL_ (some 8) rfl rfl Try.func20 (by kernel_rfl) rfl #[.agg #[.int .i64 a0_0, .slice A0_1 l0_1.length c0_1, .slice A0_2 l0_2.length c0_2]] rfl (by (try simp only [List.map_toArray, List.map_cons, List.map_nil]); first | done | rfl | (simp only [List.length_drop, List.length_take]; rfl)) ?_; (with_reducible refine (pl_Thin.calls a0_0 _ _ l0_1 _ _ l0_2 true _ ?side1 ?side2 ?side3 ?side4 A2.out).mono ?_); (case side1 => repeat (first | exact (Kd.C_below HR0_1.out HB.out) | (with_reducible refine Kd.C_alloc ?_ _) | (with_reducible refine Kd.C_drewN ?_ _) | (with_reducible refine Kd.C_drew ?_))); (case side2 => exact HC0_1.out); (case side3 => repeat (first | exact (Kd.C_below HR0_2.out HB.out) | (with_reducible refine Kd.C_alloc ?_ _) | (with_reducible refine Kd.C_drewN ?_ _) | (with_reducible refine Kd.C_drew ?_))); (case side4 => exact HC0_2.out); rintro e w15 ⟨rfl, hb⟩; refine ⟨_, rfl, ?_⟩; have n0_ := mkA (blk_below (g := gb335) (o := .cells #[.int .i64 a0_0, .slice A0_1 l0_1.length c0_1, .slice A0_2 l0_2.length c0_2] 25 (0, 0)) (by (with_reducible repeat (first | refine z16 ?_ _ | refine z22 ?_ | refine z19 ?_ _)); exact BK335.out) hb); have n1_ := mkA (z17 (by repeat (first | (with_reducible first | exact HB.out | apply z11 | apply z10 | apply z12 | refine z15 ?_ GE335.out) | exact HB.out)) hb); clear BK335; clear HB; have BK335 := n0_; have HB := n1_; clear n0_ n1_; (try clear hb); (try clear hb2); (try clear hk); (try clear hi); have hcz16_0 : w15.cell? ⟨gb335, 0, none⟩ = some (.int .i64 a0_0) := (z13 BK335.out 0).trans rfl; have hcz16_1 : w15.cell? ⟨gb335, 1, none⟩ = some (.slice A0_1 l0_1.length c0_1) := (z13 BK335.out 1).trans rfl; have hcz16_2 : w15.cell? ⟨gb335, 2, none⟩ = some (.slice A0_2 l0_2.length c0_2) := (z13 BK335.out 2).trans rfl; have hfz16_0 := z14 BK335.out 0; have hfz16_1 := z14 BK335.out 1; have hfz16_2 := z14 BK335.out 2) | ((with_reducible refine z24 (f := 23) rfl ?_); refine goesL_ (some 13) rfl rfl Try.func23 (by kernel_rfl) rfl #[.agg #[.int .i64 a0_0, .slice A0_1 l0_1.length c0_1, .slice A0_2 l0_2.length c0_2]] rfl (by (try simp only [List.map_toArray, List.map_cons, List.map_nil]); first | done | rfl | (simp only [List.length_drop, List.length_take]; rfl)) ?_; (with_reducible refine (pl_Slate.calls k a0_0 _ _ l0_1 _ _ l0_2 t338 t339 t342 _ ?side1 ?side2 ?side3 ?side4 A4.out).mono ?_); (case side1 => repeat (first | exact (Kd.C_below HR0_1.out HB.out) | (with_reducible refine Kd.C_alloc ?_ _) | (with_reducible refine Kd.C_drewN ?_ _) | (with_reducible refine Kd.C_drew ?_))); (case side2 => exact HC0_1.out); (case side3 => repeat (first | exact (Kd.C_below HR0_2.out HB.out) | (with_reducible refine Kd.C_alloc ?_ _) | (with_reducible refine Kd.C_drewN ?_ _) | (with_reducible refine Kd.C_drew ?_))); (case side4 => exact HC0_2.out); rintro e w17 ⟨v340, v343, rfl, ho0, ho1, hb⟩; refine ⟨_, rfl, ?_⟩; have n0_ := mkA (Kd.R_lower ho0 (z18 (by repeat (first | (with_reducible first | exact HB.out | apply z11 | apply z10 | apply z12 | refine z15 ?_ GE335.out) | exact HB.out)))); have n1_ := mkA (Kd.R_lower ho1 (z18 (by repeat (first | (with_reducible first | exact HB.out | apply z11 | apply z10 | apply z12 | refine z15 ?_ GE335.out) | exact HB.out)))); have n2_ := mkA (blk_below (g := gb335) (o := .cells #[.int .i64 a0_0, .slice A0_1 l0_1.length c0_1, .slice A0_2 l0_2.length c0_2] 25 (0, 0)) (by (with_reducible repeat (first | refine z16 ?_ _ | refine z22 ?_ | refine z19 ?_ _)); exact BK335.out) hb); have n3_ := mkA (z17 (by repeat (first | (with_reducible first | exact HB.out | apply z11 | apply z10 | apply z12 | refine z15 ?_ GE335.out) | exact HB.out)) hb); clear BK335; clear HB; have HO341 := n0_; have HO344 := n1_; have BK335 := n2_; have HB := n3_; clear n0_ n1_ n2_ n3_; (try clear hb); (try clear hb2); (try clear hk); (try clear hi); (try clear ho0); (try clear ho1); obtain ⟨Ao18, co18, eo18⟩ := Kd.R_slice HO341.out; subst eo18; obtain ⟨Ao19, co19, eo19⟩ := Kd.R_slice HO344.out; subst eo19) | ((with_reducible refine z24 (f := 37) rfl ?_); refine goesL_ (some 14) rfl rfl Try.func37 (by kernel_rfl) rfl #[.agg #[.int .i64 t338, .slice Ao18 t339.length co18, .slice Ao19 t342.length co19]] rfl (by (try simp only [List.map_toArray, List.map_cons, List.map_nil]); first | done | rfl | (simp only [List.length_drop, List.length_take]; rfl)) ?_; (with_reducible refine (soap_Fewest.calls t338 _ _ t339 _ _ t342 t345 t346 t347 _ ?side1 ?side2 ?side3 ?side4 A5.out).mono ?_); (case side1 => repeat (first | exact (Kd.R_reads' HO341.out).2.2 | (with_reducible refine Kd.C_alloc ?_ _) | (with_reducible refine Kd.C_drewN ?_ _) | (with_reducible refine Kd.C_drew ?_))); (case side2 => exact (Kd.R_reads' HO341.out).2.1); (case side3 => repeat (first | exact (Kd.R_reads' HO344.out).2.2 | (with_reducible refine Kd.C_alloc ?_ _) | (with_reducible refine Kd.C_drewN ?_ _) | (with_reducible refine Kd.C_drew ?_))); (case side4 => exact (Kd.R_reads' HO344.out).2.1); rintro e w20 ⟨rfl, hb⟩; refine ⟨_, rfl, ?_⟩; have n0_ := mkA (Kd.R_below (by (with_reducible repeat (first | apply Kd.R_alloc | apply Kd.R_drewN | apply Kd.R_drew)); exact HO341.out) hb); have n1_ := mkA (Kd.R_below (by (with_reducible repeat (first | apply Kd.R_alloc | apply Kd.R_drewN | apply Kd.R_drew)); exact HO344.out) hb); have n2_ := mkA (blk_below (g := gb335) (o := .cells #[.int .i64 a0_0, .slice A0_1 l0_1.length c0_1, .slice A0_2 l0_2.length c0_2] 25 (0, 0)) (by (with_reducible repeat (first | refine z16 ?_ _ | refine z22 ?_ | refine z19 ?_ _)); exact BK335.out) hb); have n3_ := mkA (z17 (by repeat (first | (with_reducible first | exact HB.out | apply z11 | apply z10 | apply z12 | refine z15 ?_ GE335.out) | exact HB.out)) hb); clear HO341; clear HO344; clear BK335; clear HB; have HO341 := n0_; have HO344 := n1_; have BK335 := n2_; have HB := n3_; clear n0_ n1_ n2_ n3_; (try clear hb); (try clear hb2); (try clear hk); (try clear hi)) | ((with_reducible refine z26 (N := 3) rfl ?_); refine z25 ?hg (N := 3) ?hd (cs := #[.int .i64 0, .int .i64 0]) (t := 44) ?hr ?_; (case hd => rfl); (case hg => rfl); (case hr => first | (go_simp; done) | (go_simp; rfl)); intro gb348 hg w21 hbox hb; have n0_ := mkA (Kd.R_below (by (with_reducible repeat (first | apply Kd.R_alloc | apply Kd.R_drewN | apply Kd.R_drew)); exact HO341.out) hb); have n1_ := mkA (Kd.R_below (by (with_reducible repeat (first | apply Kd.R_alloc | apply Kd.R_drewN | apply Kd.R_drew)); exact HO344.out) hb); have n2_ := mkA (blk_below (g := gb335) (o := .cells #[.int .i64 a0_0, .slice A0_1 l0_1.length c0_1, .slice A0_2 l0_2.length c0_2] 25 (0, 0)) (by (with_reducible repeat (first | refine z16 ?_ _ | refine z22 ?_ | refine z19 ?_ _)); exact BK335.out) hb); have n3_ := mkA (z17 (by repeat (first | (with_reducible first | exact HB.out | apply z11 | apply z10 | apply z12 | refine z15 ?_ GE335.out) | exact HB.out)) hb); have n4_ := mkA (hbox); have n5_ := mkA ((by rw [hg]; exact (z18 (by repeat (first | (with_reducible first | exact HB.out | apply z11 | apply z10 | apply z12 | refine z15 ?_ GE335.out) | exact HB.out))) : w.heap.size ≤ gb348)); have n6_ := mkA ((by rw [hg]; exact (z18 (by repeat (first | (with_reducible first | exact HB.out | apply z11 | apply z10 | apply z12 | refine z15 ?_ GE335.out) | exact HB.out))) : w.heap.size ≤ gb348)); have n7_ := mkA ((by rw [hg]; exact Nat.ne_of_lt (blk_lt (g := gb335) (o := .cells #[.int .i64 a0_0, .slice A0_1 l0_1.length c0_1, .slice A0_2 l0_2.length c0_2] 25 (0, 0)) (by (with_reducible repeat (first | refine z16 ?_ _ | refine z22 ?_ | refine z19 ?_ _)); exact BK335.out)) : gb335 ≠ gb348)); have n8_ := mkA ((by rw [hg]; exact Nat.ne_of_gt (blk_lt (g := gb335) (o := .cells #[.int .i64 a0_0, .slice A0_1 l0_1.length c0_1, .slice A0_2 l0_2.length c0_2] 25 (0, 0)) (by (with_reducible repeat (first | refine z16 ?_ _ | refine z22 ?_ | refine z19 ?_ _)); exact BK335.out)) : gb348 ≠ gb335)); clear HO341; clear HO344; clear BK335; clear HB; have HO341 := n0_; have HO344 := n1_; have BK335 := n2_; have HB := n3_; have BK348 := n4_; have GW348 := n5_; have GE348 := n6_; have NB335_348 := n7_; have NB348_335 := n8_; clear n0_ n1_ n2_ n3_ n4_ n5_ n6_ n7_ n8_; clear hb hbox hg; have hnb22 := NB348_335.out; have hnc22 := NB335_348.out; have hcz23_0 : w21.cell? ⟨gb348, 0, none⟩ = some (.int .i64 0) := (z13 BK348.out 0).trans rfl; have hcz23_1 : w21.cell? ⟨gb348, 1, none⟩ = some (.int .i64 0) := (z13 BK348.out 1).trans rfl; have hfz23_0 := z14 BK348.out 0; have hfz23_1 := z14 BK348.out 1; have hcz24_0 : w21.cell? ⟨gb335, 0, none⟩ = some (.int .i64 a0_0) := (z13 BK335.out 0).trans rfl; have hcz24_1 : w21.cell? ⟨gb335, 1, none⟩ = some (.slice A0_1 l0_1.length c0_1) := (z13 BK335.out 1).trans rfl; have hcz24_2 : w21.cell? ⟨gb335, 2, none⟩ = some (.slice A0_2 l0_2.length c0_2) := (z13 BK335.out 2).trans rfl; have hfz24_0 := z14 BK335.out 0; have hfz24_1 := z14 BK335.out 1; have hfz24_2 := z14 BK335.out 2) | ((with_reducible refine z24 (f := 25) rfl ?_); refine goesL_ (some 19) rfl rfl Try.func25 (by kernel_rfl) rfl #[.agg #[.int .i64 a0_0, .slice A0_1 l0_1.length c0_1, .slice A0_2 l0_2.length c0_2]] rfl (by (try simp only [List.map_toArray, List.map_cons, List.map_nil]); first | done | rfl | (simp only [List.length_drop, List.length_take]; rfl)) ?_; (with_reducible refine (pl_sure.calls k a0_0 _ _ l0_1 _ _ l0_2 t349 t352 _ ?side1 ?side2 ?side3 ?side4 A6.out).mono ?_); (case side1 => exact Kd.C_below HR0_1.out (by repeat (first | (with_reducible first | exact HB.out | apply z11 | apply z10 | apply z12 | refine z15 ?_ GE335.out | refine z15 ?_ GE348.out) | exact HB.out))); (case side2 => exact HC0_1.out); (case side3 => exact Kd.C_below HR0_2.out (by repeat (first | (with_reducible first | exact HB.out | apply z11 | apply z10 | apply z12 | refine z15 ?_ GE335.out | refine z15 ?_ GE348.out) | exact HB.out))); (case side4 => exact HC0_2.out); rintro e w25 ⟨v350, rfl, ho0, hb⟩; refine ⟨_, rfl, ?_⟩; have n0_ := mkA (Kd.R_below (by (with_reducible repeat (first | apply Kd.R_alloc | apply Kd.R_drewN | apply Kd.R_drew)); exact (Kd.R_mono (Kd.R_far (p := ⟨gb348, 1, none⟩) (Kd.R_far (p := ⟨gb348, 0, none⟩) (Kd.R_types HO341.out BK348.out (by decide)) (fun _ hk => hk.2) (.int .i64 t345)) (fun _ hk => hk.2) (.int .i64 t346)) (fun _ h_ => h_.1))) hb); have n1_ := mkA (Kd.R_below (by (with_reducible repeat (first | apply Kd.R_alloc | apply Kd.R_drewN | apply Kd.R_drew)); exact (Kd.R_mono (Kd.R_far (p := ⟨gb348, 1, none⟩) (Kd.R_far (p := ⟨gb348, 0, none⟩) (Kd.R_types HO344.out BK348.out (by decide)) (fun _ hk => hk.2) (.int .i64 t345)) (fun _ hk => hk.2) (.int .i64 t346)) (fun _ h_ => h_.1))) hb); have n2_ := mkA (Kd.S_lower ho0 (z18 (by repeat (first | (with_reducible first | exact HB.out | apply z11 | apply z10 | apply z12 | refine z15 ?_ GE335.out | refine z15 ?_ GE348.out) | exact HB.out)))); have n3_ := mkA (blk_below (g := gb335) (o := .cells #[.int .i64 a0_0, .slice A0_1 l0_1.length c0_1, .slice A0_2 l0_2.length c0_2] 25 (0, 0)) (by (with_reducible repeat (first | refine z16 ?_ _ | refine z22 ?_ | refine z19 ?_ _)); refine blk_far ?_ NB335_348.out _; (with_reducible repeat (first | refine z16 ?_ _ | refine z22 ?_ | refine z19 ?_ _)); refine blk_far ?_ NB335_348.out _; (with_reducible repeat (first | refine z16 ?_ _ | refine z22 ?_ | refine z19 ?_ _)); exact BK335.out) hb); have n4_ := mkA (blk_below (g := gb348) (o := .cells #[.int .i64 t345, .int .i64 t346] 44 (0, 0)) (by (with_reducible repeat (first | refine z16 ?_ _ | refine z22 ?_ | refine z19 ?_ _)); refine blk_put (cs := #[.int .i64 t345, .int .i64 0]) ?_ 1 _ rfl; (with_reducible repeat (first | refine z16 ?_ _ | refine z22 ?_ | refine z19 ?_ _)); refine blk_put (cs := #[.int .i64 0, .int .i64 0]) ?_ 0 _ rfl; (with_reducible repeat (first | refine z16 ?_ _ | refine z22 ?_ | refine z19 ?_ _)); exact BK348.out) hb); have n5_ := mkA (z17 (by repeat (first | (with_reducible first | exact HB.out | apply z11 | apply z10 | apply z12 | refine z15 ?_ GE335.out | refine z15 ?_ GE348.out) | exact HB.out)) hb); clear HO341; clear HO344; clear BK335; clear BK348; clear HB; have HO341 := n0_; have HO344 := n1_; have HO351 := n2_; have BK335 := n3_; have BK348 := n4_; have HB := n5_; clear n0_ n1_ n2_ n3_ n4_ n5_; (try clear hb); (try clear hb2); (try clear hk); (try clear hi); (try clear ho0)))
     have n0_ := mkA (Kd.R_drew HO341.out)
     have n1_ := mkA (Kd.R_drew HO344.out)
     have n2_ := mkA (Kd.S_drew HO351.out)
     have n3_ := mkA (z22 BK335.out)
     have n4_ := mkA (z22 BK348.out)
     have n5_ := mkA (z12 HB.out)
     clear HO341
     clear HO344
     clear HO351
     clear BK335
     clear BK348
     clear HB
     have HO341 := n0_
     have HO344 := n1_
     have HO351 := n2_
     have BK335 := n3_
     have BK348 := n4_
     have HB := n5_
     clear n0_ n1_ n2_ n3_ n4_ n5_
     obtain ⟨Ao27, co27, eo27⟩ := Kd.S_slice HO351.out
     (first | subst eo27 | (injection eo27 with f1_ f2_ f3_; have f4_ := f1_.symm; have f5_ := f3_.symm; clear f1_ f2_ f3_; subst f4_; subst f5_))
     refine start_ (n := 14) (S := fun w' => w'.cell? ⟨gb348, 0, none⟩ = some (.int .i64 t345) ∧ w'.cell? ⟨gb348, 1, none⟩ = some (.int .i64 t346) ∧ w'.cell? ⟨gb335, 0, none⟩ = some (.int .i64 a0_0) ∧ w'.cell? ⟨gb335, 1, none⟩ = some (.slice A0_1 l0_1.length c0_1) ∧ w'.cell? ⟨gb335, 2, none⟩ = some (.slice A0_2 l0_2.length c0_2)) (ds := []) #[false, false, false, false, false, false, false, false, false, false, false, false, false, false] (by kernel_rfl) rfl rfl ⟨(z13 BK348.out 0).trans rfl, (z13 BK348.out 1).trans rfl, (z13 BK335.out 0).trans rfl, (z13 BK335.out 1).trans rfl, (z13 BK335.out 2).trans rfl⟩ (fun hHeld => ?_); refine z42 pl_SoapFewest.tab7 pl_SoapFewest.bits7 (fun HT_ HW_ => ?_)
     generalize w25.drew = w26 at HO341 HO344 HO351 BK335 BK348 HB hHeld ⊢
     refine pure_ (i := 0) (N := some 35) (v := ?_) (a' := ?_) #[true, false, false, false, false, false, false, false, false, false, false, false, false, false] rfl rfl (any_of HT_.out (by kernel_rfl)) (fun _ _ _ h => h) (Or.inl ⟨by rfl, ?_⟩) ?_ ?_
     rotate_left
     ·intro w'
      go_simp
      with_reducible rfl
     rotate_left
     ·simp only [Act.put, xq1, xq2, xq3, i64_w, i32_w]
      rfl
     refine pure_ (i := 1) (N := some 36) (v := ?_) (a' := ?_) #[true, true, false, false, false, false, false, false, false, false, false, false, false, false] rfl rfl (any_of HT_.out (by kernel_rfl)) (fun _ _ _ h => h) (Or.inl ⟨by rfl, ?_⟩) ?_ ?_
     rotate_left
     ·intro w'
      go_simp
      with_reducible rfl
     rotate_left
     ·simp only [Act.put, xq1, xq2, xq3, i64_w, i32_w]
      rfl
     refine pure_ (i := 2) (N := some 37) (v := ?_) (a' := ?_) #[true, true, true, false, false, false, false, false, false, false, false, false, false, false] rfl rfl (any_of HT_.out (by kernel_rfl)) (fun _ _ _ h => h) (Or.inl ⟨by rfl, ?_⟩) ?_ ?_
     rotate_left
     ·intro w'
      go_simp
      with_reducible rfl
     rotate_left
     ·simp only [Act.put, xq1, xq2, xq3, i64_w, i32_w]
      rfl
     refine pure_ (i := 5) (N := some 40) (v := ?_) (a' := ?_) #[true, true, true, false, false, true, false, false, false, false, false, false, false, false] rfl rfl (any_of HT_.out (by kernel_rfl)) (fun _ _ _ h => h) (Or.inl ⟨by rfl, ?_⟩) ?_ ?_
     rotate_left
     ·intro w'
      go_simp
      with_reducible rfl
     rotate_left
     ·simp only [Act.put, xq1, xq2, xq3, i64_w, i32_w]
      rfl
     refine take_ (i := 3) (N := some 38) (v := ?_) (a' := ?_) #[true, true, true, true, false, true, false, false, false, false, false, false, false, false] rfl rfl (z31 HT_.out HW_.out (by kernel_rfl)) (fun _ _ _ h => h) (Or.inl ⟨by rfl, ?_⟩) hHeld ?_ ?_
     rotate_left
     ·rintro w' ⟨s0, s1, s2, s3, s4⟩
      go_simp
      with_reducible rfl
     rotate_left
     ·simp only [Act.put, xq1, xq2, xq3, i64_w, i32_w]
      rfl
     refine take_ (i := 4) (N := some 39) (v := ?_) (a' := ?_) #[true, true, true, true, true, true, false, false, false, false, false, false, false, false] rfl rfl (z31 HT_.out HW_.out (by kernel_rfl)) (fun _ _ _ h => h) (Or.inl ⟨by rfl, ?_⟩) hHeld ?_ ?_
     rotate_left
     ·rintro w' ⟨s0, s1, s2, s3, s4⟩
      go_simp
      with_reducible rfl
     rotate_left
     ·simp only [Act.put, xq1, xq2, xq3, i64_w, i32_w]
      rfl
     refine one_ (i := 6) (N := some 41) #[true, true, true, true, true, true, true, false, false, false, false, false, false, false] rfl rfl (one_of HT_.out (by kernel_rfl)) (by decide) (fun K hK => ?_)
     refine goes_ Try.func38 (by kernel_rfl) rfl #[.agg #[.int .i64 a0_0, .slice A0_1 l0_1.length c0_1, .slice A0_2 l0_2.length c0_2], .slice Ao27 t349.length co27] (by rfl) rfl rfl (by (try simp only [List.map_toArray, List.map_cons, List.map_nil]); first | done | rfl | (simp only [List.length_drop, List.length_take]; rfl)) ?_
     with_reducible refine (pr_Fewest.calls k a0_0 _ _ l0_1 _ _ l0_2 _ _ t349 t353 t354 _ ?side1 ?side2 ?side3 ?side4 ?side5 ?side6 A9.out).mono ?_
     (case side1 => repeat (first | exact (Kd.C_below HR0_1.out HB.out) | (with_reducible refine Kd.C_alloc ?_ _) | (with_reducible refine Kd.C_drewN ?_ _) | (with_reducible refine Kd.C_drew ?_)))
     (case side2 => exact HC0_1.out)
     (case side3 => repeat (first | exact (Kd.C_below HR0_2.out HB.out) | (with_reducible refine Kd.C_alloc ?_ _) | (with_reducible refine Kd.C_drewN ?_ _) | (with_reducible refine Kd.C_drew ?_)))
     (case side4 => exact HC0_2.out)
     (case side5 => repeat (first | exact (Kd.S_reads' HO351.out).2.2 | (with_reducible refine Kd.C_alloc ?_ _) | (with_reducible refine Kd.C_drewN ?_ _) | (with_reducible refine Kd.C_drew ?_)))
     (case side6 => exact (Kd.S_reads' HO351.out).2.1)
     rintro e w28 ⟨rfl, hb⟩
     refine ⟨_, rfl, ?_⟩
     have n0_ := mkA (Kd.R_below (by (with_reducible repeat (first | apply Kd.R_alloc | apply Kd.R_drewN | apply Kd.R_drew)); exact HO341.out) hb)
     have n1_ := mkA (Kd.R_below (by (with_reducible repeat (first | apply Kd.R_alloc | apply Kd.R_drewN | apply Kd.R_drew)); exact HO344.out) hb)
     have n2_ := mkA (Kd.S_below (by (with_reducible repeat (first | apply Kd.S_alloc | apply Kd.S_drewN | apply Kd.S_drew)); exact HO351.out) hb)
     have n3_ := mkA (blk_below (g := gb335) (o := .cells #[.int .i64 a0_0, .slice A0_1 l0_1.length c0_1, .slice A0_2 l0_2.length c0_2] 25 (0, 0)) (by (with_reducible repeat (first | refine z16 ?_ _ | refine z22 ?_ | refine z19 ?_ _)); exact BK335.out) hb)
     have n4_ := mkA (blk_below (g := gb348) (o := .cells #[.int .i64 t345, .int .i64 t346] 44 (0, 0)) (by (with_reducible repeat (first | refine z16 ?_ _ | refine z22 ?_ | refine z19 ?_ _)); exact BK348.out) hb)
     have n5_ := mkA (z17 (by repeat (first | (with_reducible first | exact HB.out | apply z11 | apply z10 | apply z12 | refine z15 ?_ GE335.out | refine z15 ?_ GE348.out) | exact HB.out)) hb)
     clear HO341
     clear HO344
     clear HO351
     clear BK335
     clear BK348
     clear HB
     have HO341 := n0_
     have HO344 := n1_
     have HO351 := n2_
     have BK335 := n3_
     have BK348 := n4_
     have HB := n5_
     clear n0_ n1_ n2_ n3_ n4_ n5_
     (try clear hb)
     (try clear hb2)
     (try clear hk)
     (try clear hi)
     refine hK.out _ _ ⟨(z13 BK348.out 0).trans rfl, (z13 BK348.out 1).trans rfl, (z13 BK335.out 0).trans rfl, (z13 BK335.out 1).trans rfl, (z13 BK335.out 2).trans rfl⟩ (fun hHeld => ?_)
     clear hK K
     refine norm_ (a' := ?_) ?_ ?_
     rotate_left
     ·show Act.put _ (some 41) _ = _
      simp only [Act.put, xq1, xq2, xq3, i64_w, i32_w]
      rfl
     refine one_ (i := 7) (N := some 42) #[true, true, true, true, true, true, true, true, false, false, false, false, false, false] rfl rfl (one_of HT_.out (by kernel_rfl)) (by decide) (fun K hK => ?_)
     refine goes_ Try.func26 (by kernel_rfl) rfl #[.agg #[.int .i64 t353, .int .i64 t354]] (by rfl) rfl rfl (by (try simp only [List.map_toArray, List.map_cons, List.map_nil]); first | done | rfl | (simp only [List.length_drop, List.length_take]; rfl)) ?_
     with_reducible refine (pl_to.calls t353 t354 t355 t356 _ A10.out).mono ?_
     rintro e w29 ⟨rfl, hb⟩
     refine ⟨_, rfl, ?_⟩
     have n0_ := mkA (Kd.R_below (by (with_reducible repeat (first | apply Kd.R_alloc | apply Kd.R_drewN | apply Kd.R_drew)); exact HO341.out) hb)
     have n1_ := mkA (Kd.R_below (by (with_reducible repeat (first | apply Kd.R_alloc | apply Kd.R_drewN | apply Kd.R_drew)); exact HO344.out) hb)
     have n2_ := mkA (Kd.S_below (by (with_reducible repeat (first | apply Kd.S_alloc | apply Kd.S_drewN | apply Kd.S_drew)); exact HO351.out) hb)
     have n3_ := mkA (blk_below (g := gb335) (o := .cells #[.int .i64 a0_0, .slice A0_1 l0_1.length c0_1, .slice A0_2 l0_2.length c0_2] 25 (0, 0)) (by (with_reducible repeat (first | refine z16 ?_ _ | refine z22 ?_ | refine z19 ?_ _)); exact BK335.out) hb)
     have n4_ := mkA (blk_below (g := gb348) (o := .cells #[.int .i64 t345, .int .i64 t346] 44 (0, 0)) (by (with_reducible repeat (first | refine z16 ?_ _ | refine z22 ?_ | refine z19 ?_ _)); exact BK348.out) hb)
     have n5_ := mkA (z17 (by repeat (first | (with_reducible first | exact HB.out | apply z11 | apply z10 | apply z12 | refine z15 ?_ GE335.out | refine z15 ?_ GE348.out) | exact HB.out)) hb)
     clear HO341
     clear HO344
     clear HO351
     clear BK335
     clear BK348
     clear HB
     have HO341 := n0_
     have HO344 := n1_
     have HO351 := n2_
     have BK335 := n3_
     have BK348 := n4_
     have HB := n5_
     clear n0_ n1_ n2_ n3_ n4_ n5_
     (try clear hb)
     (try clear hb2)
     (try clear hk)
     (try clear hi)
     refine hK.out _ _ ⟨(z13 BK348.out 0).trans rfl, (z13 BK348.out 1).trans rfl, (z13 BK335.out 0).trans rfl, (z13 BK335.out 1).trans rfl, (z13 BK335.out 2).trans rfl⟩ (fun hHeld => ?_)
     clear hK K
     refine norm_ (a' := ?_) ?_ ?_
     rotate_left
     ·show Act.put _ (some 42) _ = _
      simp only [Act.put, xq1, xq2, xq3, i64_w, i32_w]
      rfl
     refine pure_ (i := 8) (N := some 43) (v := ?_) (a' := ?_) #[true, true, true, true, true, true, true, true, true, false, false, false, false, false] rfl rfl (any_of HT_.out (by kernel_rfl)) (fun _ _ _ h => h) (Or.inl ⟨by rfl, ?_⟩) ?_ ?_
     rotate_left
     ·intro w'
      go_simp
      with_reducible rfl
     rotate_left
     ·simp only [Act.put, xq1, xq2, xq3, i64_w, i32_w]
      rfl
     refine pure_ (i := 9) (N := some 44) (v := ?_) (a' := ?_) #[true, true, true, true, true, true, true, true, true, true, false, false, false, false] rfl rfl (any_of HT_.out (by kernel_rfl)) (fun _ _ _ h => h) (Or.inl ⟨by rfl, ?_⟩) ?_ ?_
     rotate_left
     ·intro w'
      go_simp
      with_reducible rfl
     rotate_left
     ·simp only [Act.put, xq1, xq2, xq3, i64_w, i32_w]
      rfl
     refine pure_ (i := 10) (N := some 45) (v := ?_) (a' := ?_) #[true, true, true, true, true, true, true, true, true, true, true, false, false, false] rfl rfl (any_of HT_.out (by kernel_rfl)) (fun _ _ _ h => h) (Or.inl ⟨by rfl, ?_⟩) ?_ ?_
     rotate_left
     ·intro w'
      go_simp
      with_reducible rfl
     rotate_left
     ·simp only [Act.put, xq1, xq2, xq3, i64_w, i32_w]
      rfl
     refine one_ (i := 11) (N := some 46) #[true, true, true, true, true, true, true, true, true, true, true, true, false, false] rfl rfl (one_of HT_.out (by kernel_rfl)) (by decide) (fun K hK => ?_)
     refine goes_ Try.func21 (by kernel_rfl) rfl #[] (by rfl) rfl rfl (by (try simp only [List.map_toArray, List.map_cons, List.map_nil]); first | done | rfl | (simp only [List.length_drop, List.length_take]; rfl)) ?_
     with_reducible refine (pl_awake.calls  t357 _ A12.out).mono ?_
     rintro e w30 ⟨rfl, hb⟩
     refine ⟨_, rfl, ?_⟩
     have n0_ := mkA (Kd.R_below (by (with_reducible repeat (first | apply Kd.R_alloc | apply Kd.R_drewN | apply Kd.R_drew)); exact HO341.out) hb)
     have n1_ := mkA (Kd.R_below (by (with_reducible repeat (first | apply Kd.R_alloc | apply Kd.R_drewN | apply Kd.R_drew)); exact HO344.out) hb)
     have n2_ := mkA (Kd.S_below (by (with_reducible repeat (first | apply Kd.S_alloc | apply Kd.S_drewN | apply Kd.S_drew)); exact HO351.out) hb)
     have n3_ := mkA (blk_below (g := gb335) (o := .cells #[.int .i64 a0_0, .slice A0_1 l0_1.length c0_1, .slice A0_2 l0_2.length c0_2] 25 (0, 0)) (by (with_reducible repeat (first | refine z16 ?_ _ | refine z22 ?_ | refine z19 ?_ _)); exact BK335.out) hb)
     have n4_ := mkA (blk_below (g := gb348) (o := .cells #[.int .i64 t345, .int .i64 t346] 44 (0, 0)) (by (with_reducible repeat (first | refine z16 ?_ _ | refine z22 ?_ | refine z19 ?_ _)); exact BK348.out) hb)
     have n5_ := mkA (z17 (by repeat (first | (with_reducible first | exact HB.out | apply z11 | apply z10 | apply z12 | refine z15 ?_ GE335.out | refine z15 ?_ GE348.out) | exact HB.out)) hb)
     clear HO341
     clear HO344
     clear HO351
     clear BK335
     clear BK348
     clear HB
     have HO341 := n0_
     have HO344 := n1_
     have HO351 := n2_
     have BK335 := n3_
     have BK348 := n4_
     have HB := n5_
     clear n0_ n1_ n2_ n3_ n4_ n5_
     (try clear hb)
     (try clear hb2)
     (try clear hk)
     (try clear hi)
     refine hK.out _ _ ⟨(z13 BK348.out 0).trans rfl, (z13 BK348.out 1).trans rfl, (z13 BK335.out 0).trans rfl, (z13 BK335.out 1).trans rfl, (z13 BK335.out 2).trans rfl⟩ (fun hHeld => ?_)
     clear hK K
     refine norm_ (a' := ?_) ?_ ?_
     rotate_left
     ·show Act.put _ (some 46) _ = _
      simp only [Act.put, xq1, xq2, xq3, i64_w, i32_w]
      rfl
     refine pure_ (i := 12) (N := some 47) (v := ?_) (a' := ?_) #[true, true, true, true, true, true, true, true, true, true, true, true, true, false] rfl rfl (any_of HT_.out (by kernel_rfl)) (fun _ _ _ h => h) (Or.inl ⟨by rfl, ?_⟩) ?_ ?_
     rotate_left
     ·intro w'
      go_simp
      with_reducible rfl
     rotate_left
     ·simp only [Act.put, xq1, xq2, xq3, i64_w, i32_w]
      rfl
     refine pure_ (i := 13) (N := some 2) (v := ?_) (a' := ?_) #[true, true, true, true, true, true, true, true, true, true, true, true, true, true] rfl rfl (any_of HT_.out (by kernel_rfl)) (fun _ _ _ h => h) (Or.inl ⟨by rfl, ?_⟩) ?_ ?_
     rotate_left
     ·intro w'
      go_simp
      with_reducible rfl
     rotate_left
     ·simp only [Act.put, xq1, xq2, xq3, i64_w, i32_w]
      rfl
     refine done_ (done_of HT_.out (by kernel_rfl)) ?_
     try go_wp2
     go_ret
     exact ⟨by first | rfl | (simp [z21, z20] <;> rfl) | (simp [*, z21, z20] <;> rfl), by repeat (first | (with_reducible first | exact HB.out | apply z11 | apply z10 | apply z12 | refine z15 ?_ GE335.out | refine z15 ?_ GE348.out) | exact HB.out)⟩
    ·rw [if_neg c11] at H
     have c11b0 : (t345 == t355 && (t346 == t356)) = false := by simpa using c11
     (try (have c11b1 : decide (t345 = t355 && (t346 == t356)) = false := by simpa using c11))
     (try (have c11b2 : (t345 == t355 && (t346 == t356)) = false := by simpa using c11))
     (try (have c11b3 : ¬ (t345 = t355 && (t346 == t356)) := by simpa using c11))
     clear c11
     obtain rfl := Option.some.inj H
     go_enter Try.func5, Try.ntmps5
     try go_wp2_with (first | ((with_reducible refine z26 (N := 1) rfl ?_); refine z25 ?hg (N := 1) ?hd (cs := #[.int .i64 a0_0, .slice A0_1 l0_1.length c0_1, .slice A0_2 l0_2.length c0_2]) (t := 25) ?hr ?_; (case hd => rfl); (case hg => rfl); (case hr => first | (go_simp; done) | (go_simp; rfl)); intro gb335 hg w31 hbox hb; have n0_ := mkA (z17 (by repeat (first | (with_reducible first | exact HB.out | apply z11 | apply z10 | apply z12) | exact HB.out)) hb); have n1_ := mkA (hbox); have n2_ := mkA ((by rw [hg]; exact (z18 (by repeat (first | (with_reducible first | exact HB.out | apply z11 | apply z10 | apply z12) | exact HB.out))) : w.heap.size ≤ gb335)); have n3_ := mkA ((by rw [hg]; exact (z18 (by repeat (first | (with_reducible first | exact HB.out | apply z11 | apply z10 | apply z12) | exact HB.out))) : w.heap.size ≤ gb335)); clear HB; have HB := n0_; have BK335 := n1_; have GW335 := n2_; have GE335 := n3_; clear n0_ n1_ n2_ n3_; clear hb hbox hg; have hcz32_0 : w31.cell? ⟨gb335, 0, none⟩ = some (.int .i64 a0_0) := (z13 BK335.out 0).trans rfl; have hcz32_1 : w31.cell? ⟨gb335, 1, none⟩ = some (.slice A0_1 l0_1.length c0_1) := (z13 BK335.out 1).trans rfl; have hcz32_2 : w31.cell? ⟨gb335, 2, none⟩ = some (.slice A0_2 l0_2.length c0_2) := (z13 BK335.out 2).trans rfl; have hfz32_0 := z14 BK335.out 0; have hfz32_1 := z14 BK335.out 1; have hfz32_2 := z14 BK335.out 2) | ((with_reducible refine z24 (f := 20) rfl ?_); refine goesL_ (some 8) rfl rfl Try.func20 (by kernel_rfl) rfl #[.agg #[.int .i64 a0_0, .slice A0_1 l0_1.length c0_1, .slice A0_2 l0_2.length c0_2]] rfl (by (try simp only [List.map_toArray, List.map_cons, List.map_nil]); first | done | rfl | (simp only [List.length_drop, List.length_take]; rfl)) ?_; (with_reducible refine (pl_Thin.calls a0_0 _ _ l0_1 _ _ l0_2 true _ ?side1 ?side2 ?side3 ?side4 A2.out).mono ?_); (case side1 => repeat (first | exact (Kd.C_below HR0_1.out HB.out) | (with_reducible refine Kd.C_alloc ?_ _) | (with_reducible refine Kd.C_drewN ?_ _) | (with_reducible refine Kd.C_drew ?_))); (case side2 => exact HC0_1.out); (case side3 => repeat (first | exact (Kd.C_below HR0_2.out HB.out) | (with_reducible refine Kd.C_alloc ?_ _) | (with_reducible refine Kd.C_drewN ?_ _) | (with_reducible refine Kd.C_drew ?_))); (case side4 => exact HC0_2.out); rintro e w33 ⟨rfl, hb⟩; refine ⟨_, rfl, ?_⟩; have n0_ := mkA (blk_below (g := gb335) (o := .cells #[.int .i64 a0_0, .slice A0_1 l0_1.length c0_1, .slice A0_2 l0_2.length c0_2] 25 (0, 0)) (by (with_reducible repeat (first | refine z16 ?_ _ | refine z22 ?_ | refine z19 ?_ _)); exact BK335.out) hb); have n1_ := mkA (z17 (by repeat (first | (with_reducible first | exact HB.out | apply z11 | apply z10 | apply z12 | refine z15 ?_ GE335.out) | exact HB.out)) hb); clear BK335; clear HB; have BK335 := n0_; have HB := n1_; clear n0_ n1_; (try clear hb); (try clear hb2); (try clear hk); (try clear hi); have hcz34_0 : w33.cell? ⟨gb335, 0, none⟩ = some (.int .i64 a0_0) := (z13 BK335.out 0).trans rfl; have hcz34_1 : w33.cell? ⟨gb335, 1, none⟩ = some (.slice A0_1 l0_1.length c0_1) := (z13 BK335.out 1).trans rfl; have hcz34_2 : w33.cell? ⟨gb335, 2, none⟩ = some (.slice A0_2 l0_2.length c0_2) := (z13 BK335.out 2).trans rfl; have hfz34_0 := z14 BK335.out 0; have hfz34_1 := z14 BK335.out 1; have hfz34_2 := z14 BK335.out 2) | ((with_reducible refine z24 (f := 23) rfl ?_); refine goesL_ (some 13) rfl rfl Try.func23 (by kernel_rfl) rfl #[.agg #[.int .i64 a0_0, .slice A0_1 l0_1.length c0_1, .slice A0_2 l0_2.length c0_2]] rfl (by (try simp only [List.map_toArray, List.map_cons, List.map_nil]); first | done | rfl | (simp only [List.length_drop, List.length_take]; rfl)) ?_; (with_reducible refine (pl_Slate.calls k a0_0 _ _ l0_1 _ _ l0_2 t338 t339 t342 _ ?side1 ?side2 ?side3 ?side4 A4.out).mono ?_); (case side1 => repeat (first | exact (Kd.C_below HR0_1.out HB.out) | (with_reducible refine Kd.C_alloc ?_ _) | (with_reducible refine Kd.C_drewN ?_ _) | (with_reducible refine Kd.C_drew ?_))); (case side2 => exact HC0_1.out); (case side3 => repeat (first | exact (Kd.C_below HR0_2.out HB.out) | (with_reducible refine Kd.C_alloc ?_ _) | (with_reducible refine Kd.C_drewN ?_ _) | (with_reducible refine Kd.C_drew ?_))); (case side4 => exact HC0_2.out); rintro e w35 ⟨v340, v343, rfl, ho0, ho1, hb⟩; refine ⟨_, rfl, ?_⟩; have n0_ := mkA (Kd.R_lower ho0 (z18 (by repeat (first | (with_reducible first | exact HB.out | apply z11 | apply z10 | apply z12 | refine z15 ?_ GE335.out) | exact HB.out)))); have n1_ := mkA (Kd.R_lower ho1 (z18 (by repeat (first | (with_reducible first | exact HB.out | apply z11 | apply z10 | apply z12 | refine z15 ?_ GE335.out) | exact HB.out)))); have n2_ := mkA (blk_below (g := gb335) (o := .cells #[.int .i64 a0_0, .slice A0_1 l0_1.length c0_1, .slice A0_2 l0_2.length c0_2] 25 (0, 0)) (by (with_reducible repeat (first | refine z16 ?_ _ | refine z22 ?_ | refine z19 ?_ _)); exact BK335.out) hb); have n3_ := mkA (z17 (by repeat (first | (with_reducible first | exact HB.out | apply z11 | apply z10 | apply z12 | refine z15 ?_ GE335.out) | exact HB.out)) hb); clear BK335; clear HB; have HO341 := n0_; have HO344 := n1_; have BK335 := n2_; have HB := n3_; clear n0_ n1_ n2_ n3_; (try clear hb); (try clear hb2); (try clear hk); (try clear hi); (try clear ho0); (try clear ho1); obtain ⟨Ao36, co36, eo36⟩ := Kd.R_slice HO341.out; subst eo36; obtain ⟨Ao37, co37, eo37⟩ := Kd.R_slice HO344.out; subst eo37) | ((with_reducible refine z24 (f := 37) rfl ?_); refine goesL_ (some 14) rfl rfl Try.func37 (by kernel_rfl) rfl #[.agg #[.int .i64 t338, .slice Ao36 t339.length co36, .slice Ao37 t342.length co37]] rfl (by (try simp only [List.map_toArray, List.map_cons, List.map_nil]); first | done | rfl | (simp only [List.length_drop, List.length_take]; rfl)) ?_; (with_reducible refine (soap_Fewest.calls t338 _ _ t339 _ _ t342 t345 t346 t347 _ ?side1 ?side2 ?side3 ?side4 A5.out).mono ?_); (case side1 => repeat (first | exact (Kd.R_reads' HO341.out).2.2 | (with_reducible refine Kd.C_alloc ?_ _) | (with_reducible refine Kd.C_drewN ?_ _) | (with_reducible refine Kd.C_drew ?_))); (case side2 => exact (Kd.R_reads' HO341.out).2.1); (case side3 => repeat (first | exact (Kd.R_reads' HO344.out).2.2 | (with_reducible refine Kd.C_alloc ?_ _) | (with_reducible refine Kd.C_drewN ?_ _) | (with_reducible refine Kd.C_drew ?_))); (case side4 => exact (Kd.R_reads' HO344.out).2.1); rintro e w38 ⟨rfl, hb⟩; refine ⟨_, rfl, ?_⟩; have n0_ := mkA (Kd.R_below (by (with_reducible repeat (first | apply Kd.R_alloc | apply Kd.R_drewN | apply Kd.R_drew)); exact HO341.out) hb); have n1_ := mkA (Kd.R_below (by (with_reducible repeat (first | apply Kd.R_alloc | apply Kd.R_drewN | apply Kd.R_drew)); exact HO344.out) hb); have n2_ := mkA (blk_below (g := gb335) (o := .cells #[.int .i64 a0_0, .slice A0_1 l0_1.length c0_1, .slice A0_2 l0_2.length c0_2] 25 (0, 0)) (by (with_reducible repeat (first | refine z16 ?_ _ | refine z22 ?_ | refine z19 ?_ _)); exact BK335.out) hb); have n3_ := mkA (z17 (by repeat (first | (with_reducible first | exact HB.out | apply z11 | apply z10 | apply z12 | refine z15 ?_ GE335.out) | exact HB.out)) hb); clear HO341; clear HO344; clear BK335; clear HB; have HO341 := n0_; have HO344 := n1_; have BK335 := n2_; have HB := n3_; clear n0_ n1_ n2_ n3_; (try clear hb); (try clear hb2); (try clear hk); (try clear hi)) | ((with_reducible refine z26 (N := 3) rfl ?_); refine z25 ?hg (N := 3) ?hd (cs := #[.int .i64 0, .int .i64 0]) (t := 44) ?hr ?_; (case hd => rfl); (case hg => rfl); (case hr => first | (go_simp; done) | (go_simp; rfl)); intro gb348 hg w39 hbox hb; have n0_ := mkA (Kd.R_below (by (with_reducible repeat (first | apply Kd.R_alloc | apply Kd.R_drewN | apply Kd.R_drew)); exact HO341.out) hb); have n1_ := mkA (Kd.R_below (by (with_reducible repeat (first | apply Kd.R_alloc | apply Kd.R_drewN | apply Kd.R_drew)); exact HO344.out) hb); have n2_ := mkA (blk_below (g := gb335) (o := .cells #[.int .i64 a0_0, .slice A0_1 l0_1.length c0_1, .slice A0_2 l0_2.length c0_2] 25 (0, 0)) (by (with_reducible repeat (first | refine z16 ?_ _ | refine z22 ?_ | refine z19 ?_ _)); exact BK335.out) hb); have n3_ := mkA (z17 (by repeat (first | (with_reducible first | exact HB.out | apply z11 | apply z10 | apply z12 | refine z15 ?_ GE335.out) | exact HB.out)) hb); have n4_ := mkA (hbox); have n5_ := mkA ((by rw [hg]; exact (z18 (by repeat (first | (with_reducible first | exact HB.out | apply z11 | apply z10 | apply z12 | refine z15 ?_ GE335.out) | exact HB.out))) : w.heap.size ≤ gb348)); have n6_ := mkA ((by rw [hg]; exact (z18 (by repeat (first | (with_reducible first | exact HB.out | apply z11 | apply z10 | apply z12 | refine z15 ?_ GE335.out) | exact HB.out))) : w.heap.size ≤ gb348)); have n7_ := mkA ((by rw [hg]; exact Nat.ne_of_lt (blk_lt (g := gb335) (o := .cells #[.int .i64 a0_0, .slice A0_1 l0_1.length c0_1, .slice A0_2 l0_2.length c0_2] 25 (0, 0)) (by (with_reducible repeat (first | refine z16 ?_ _ | refine z22 ?_ | refine z19 ?_ _)); exact BK335.out)) : gb335 ≠ gb348)); have n8_ := mkA ((by rw [hg]; exact Nat.ne_of_gt (blk_lt (g := gb335) (o := .cells #[.int .i64 a0_0, .slice A0_1 l0_1.length c0_1, .slice A0_2 l0_2.length c0_2] 25 (0, 0)) (by (with_reducible repeat (first | refine z16 ?_ _ | refine z22 ?_ | refine z19 ?_ _)); exact BK335.out)) : gb348 ≠ gb335)); clear HO341; clear HO344; clear BK335; clear HB; have HO341 := n0_; have HO344 := n1_; have BK335 := n2_; have HB := n3_; have BK348 := n4_; have GW348 := n5_; have GE348 := n6_; have NB335_348 := n7_; have NB348_335 := n8_; clear n0_ n1_ n2_ n3_ n4_ n5_ n6_ n7_ n8_; clear hb hbox hg; have hnb40 := NB348_335.out; have hnc40 := NB335_348.out; have hcz41_0 : w39.cell? ⟨gb348, 0, none⟩ = some (.int .i64 0) := (z13 BK348.out 0).trans rfl; have hcz41_1 : w39.cell? ⟨gb348, 1, none⟩ = some (.int .i64 0) := (z13 BK348.out 1).trans rfl; have hfz41_0 := z14 BK348.out 0; have hfz41_1 := z14 BK348.out 1; have hcz42_0 : w39.cell? ⟨gb335, 0, none⟩ = some (.int .i64 a0_0) := (z13 BK335.out 0).trans rfl; have hcz42_1 : w39.cell? ⟨gb335, 1, none⟩ = some (.slice A0_1 l0_1.length c0_1) := (z13 BK335.out 1).trans rfl; have hcz42_2 : w39.cell? ⟨gb335, 2, none⟩ = some (.slice A0_2 l0_2.length c0_2) := (z13 BK335.out 2).trans rfl; have hfz42_0 := z14 BK335.out 0; have hfz42_1 := z14 BK335.out 1; have hfz42_2 := z14 BK335.out 2) | ((with_reducible refine z24 (f := 25) rfl ?_); refine goesL_ (some 19) rfl rfl Try.func25 (by kernel_rfl) rfl #[.agg #[.int .i64 a0_0, .slice A0_1 l0_1.length c0_1, .slice A0_2 l0_2.length c0_2]] rfl (by (try simp only [List.map_toArray, List.map_cons, List.map_nil]); first | done | rfl | (simp only [List.length_drop, List.length_take]; rfl)) ?_; (with_reducible refine (pl_sure.calls k a0_0 _ _ l0_1 _ _ l0_2 t349 t352 _ ?side1 ?side2 ?side3 ?side4 A6.out).mono ?_); (case side1 => exact Kd.C_below HR0_1.out (by repeat (first | (with_reducible first | exact HB.out | apply z11 | apply z10 | apply z12 | refine z15 ?_ GE335.out | refine z15 ?_ GE348.out) | exact HB.out))); (case side2 => exact HC0_1.out); (case side3 => exact Kd.C_below HR0_2.out (by repeat (first | (with_reducible first | exact HB.out | apply z11 | apply z10 | apply z12 | refine z15 ?_ GE335.out | refine z15 ?_ GE348.out) | exact HB.out))); (case side4 => exact HC0_2.out); rintro e w43 ⟨v350, rfl, ho0, hb⟩; refine ⟨_, rfl, ?_⟩; have n0_ := mkA (Kd.R_below (by (with_reducible repeat (first | apply Kd.R_alloc | apply Kd.R_drewN | apply Kd.R_drew)); exact (Kd.R_mono (Kd.R_far (p := ⟨gb348, 1, none⟩) (Kd.R_far (p := ⟨gb348, 0, none⟩) (Kd.R_types HO341.out BK348.out (by decide)) (fun _ hk => hk.2) (.int .i64 t345)) (fun _ hk => hk.2) (.int .i64 t346)) (fun _ h_ => h_.1))) hb); have n1_ := mkA (Kd.R_below (by (with_reducible repeat (first | apply Kd.R_alloc | apply Kd.R_drewN | apply Kd.R_drew)); exact (Kd.R_mono (Kd.R_far (p := ⟨gb348, 1, none⟩) (Kd.R_far (p := ⟨gb348, 0, none⟩) (Kd.R_types HO344.out BK348.out (by decide)) (fun _ hk => hk.2) (.int .i64 t345)) (fun _ hk => hk.2) (.int .i64 t346)) (fun _ h_ => h_.1))) hb); have n2_ := mkA (Kd.S_lower ho0 (z18 (by repeat (first | (with_reducible first | exact HB.out | apply z11 | apply z10 | apply z12 | refine z15 ?_ GE335.out | refine z15 ?_ GE348.out) | exact HB.out)))); have n3_ := mkA (blk_below (g := gb335) (o := .cells #[.int .i64 a0_0, .slice A0_1 l0_1.length c0_1, .slice A0_2 l0_2.length c0_2] 25 (0, 0)) (by (with_reducible repeat (first | refine z16 ?_ _ | refine z22 ?_ | refine z19 ?_ _)); refine blk_far ?_ NB335_348.out _; (with_reducible repeat (first | refine z16 ?_ _ | refine z22 ?_ | refine z19 ?_ _)); refine blk_far ?_ NB335_348.out _; (with_reducible repeat (first | refine z16 ?_ _ | refine z22 ?_ | refine z19 ?_ _)); exact BK335.out) hb); have n4_ := mkA (blk_below (g := gb348) (o := .cells #[.int .i64 t345, .int .i64 t346] 44 (0, 0)) (by (with_reducible repeat (first | refine z16 ?_ _ | refine z22 ?_ | refine z19 ?_ _)); refine blk_put (cs := #[.int .i64 t345, .int .i64 0]) ?_ 1 _ rfl; (with_reducible repeat (first | refine z16 ?_ _ | refine z22 ?_ | refine z19 ?_ _)); refine blk_put (cs := #[.int .i64 0, .int .i64 0]) ?_ 0 _ rfl; (with_reducible repeat (first | refine z16 ?_ _ | refine z22 ?_ | refine z19 ?_ _)); exact BK348.out) hb); have n5_ := mkA (z17 (by repeat (first | (with_reducible first | exact HB.out | apply z11 | apply z10 | apply z12 | refine z15 ?_ GE335.out | refine z15 ?_ GE348.out) | exact HB.out)) hb); clear HO341; clear HO344; clear BK335; clear BK348; clear HB; have HO341 := n0_; have HO344 := n1_; have HO351 := n2_; have BK335 := n3_; have BK348 := n4_; have HB := n5_; clear n0_ n1_ n2_ n3_ n4_ n5_; (try clear hb); (try clear hb2); (try clear hk); (try clear hi); (try clear ho0)))
     have n0_ := mkA (Kd.R_drew HO341.out)
     have n1_ := mkA (Kd.R_drew HO344.out)
     have n2_ := mkA (Kd.S_drew HO351.out)
     have n3_ := mkA (z22 BK335.out)
     have n4_ := mkA (z22 BK348.out)
     have n5_ := mkA (z12 HB.out)
     clear HO341
     clear HO344
     clear HO351
     clear BK335
     clear BK348
     clear HB
     have HO341 := n0_
     have HO344 := n1_
     have HO351 := n2_
     have BK335 := n3_
     have BK348 := n4_
     have HB := n5_
     clear n0_ n1_ n2_ n3_ n4_ n5_
     obtain ⟨Ao45, co45, eo45⟩ := Kd.S_slice HO351.out
     (first | subst eo45 | (injection eo45 with f1_ f2_ f3_; have f4_ := f1_.symm; have f5_ := f3_.symm; clear f1_ f2_ f3_; subst f4_; subst f5_))
     refine start_ (n := 14) (S := fun w' => w'.cell? ⟨gb348, 0, none⟩ = some (.int .i64 t345) ∧ w'.cell? ⟨gb348, 1, none⟩ = some (.int .i64 t346) ∧ w'.cell? ⟨gb335, 0, none⟩ = some (.int .i64 a0_0) ∧ w'.cell? ⟨gb335, 1, none⟩ = some (.slice A0_1 l0_1.length c0_1) ∧ w'.cell? ⟨gb335, 2, none⟩ = some (.slice A0_2 l0_2.length c0_2)) (ds := []) #[false, false, false, false, false, false, false, false, false, false, false, false, false, false] (by kernel_rfl) rfl rfl ⟨(z13 BK348.out 0).trans rfl, (z13 BK348.out 1).trans rfl, (z13 BK335.out 0).trans rfl, (z13 BK335.out 1).trans rfl, (z13 BK335.out 2).trans rfl⟩ (fun hHeld => ?_); refine z42 pl_SoapFewest.tab7 pl_SoapFewest.bits7 (fun HT_ HW_ => ?_)
     generalize w43.drew = w44 at HO341 HO344 HO351 BK335 BK348 HB hHeld ⊢
     refine pure_ (i := 0) (N := some 35) (v := ?_) (a' := ?_) #[true, false, false, false, false, false, false, false, false, false, false, false, false, false] rfl rfl (any_of HT_.out (by kernel_rfl)) (fun _ _ _ h => h) (Or.inl ⟨by rfl, ?_⟩) ?_ ?_
     rotate_left
     ·intro w'
      go_simp
      with_reducible rfl
     rotate_left
     ·simp only [Act.put, xq1, xq2, xq3, i64_w, i32_w]
      rfl
     refine pure_ (i := 1) (N := some 36) (v := ?_) (a' := ?_) #[true, true, false, false, false, false, false, false, false, false, false, false, false, false] rfl rfl (any_of HT_.out (by kernel_rfl)) (fun _ _ _ h => h) (Or.inl ⟨by rfl, ?_⟩) ?_ ?_
     rotate_left
     ·intro w'
      go_simp
      with_reducible rfl
     rotate_left
     ·simp only [Act.put, xq1, xq2, xq3, i64_w, i32_w]
      rfl
     refine pure_ (i := 2) (N := some 37) (v := ?_) (a' := ?_) #[true, true, true, false, false, false, false, false, false, false, false, false, false, false] rfl rfl (any_of HT_.out (by kernel_rfl)) (fun _ _ _ h => h) (Or.inl ⟨by rfl, ?_⟩) ?_ ?_
     rotate_left
     ·intro w'
      go_simp
      with_reducible rfl
     rotate_left
     ·simp only [Act.put, xq1, xq2, xq3, i64_w, i32_w]
      rfl
     refine pure_ (i := 5) (N := some 40) (v := ?_) (a' := ?_) #[true, true, true, false, false, true, false, false, false, false, false, false, false, false] rfl rfl (any_of HT_.out (by kernel_rfl)) (fun _ _ _ h => h) (Or.inl ⟨by rfl, ?_⟩) ?_ ?_
     rotate_left
     ·intro w'
      go_simp
      with_reducible rfl
     rotate_left
     ·simp only [Act.put, xq1, xq2, xq3, i64_w, i32_w]
      rfl
     refine take_ (i := 3) (N := some 38) (v := ?_) (a' := ?_) #[true, true, true, true, false, true, false, false, false, false, false, false, false, false] rfl rfl (z31 HT_.out HW_.out (by kernel_rfl)) (fun _ _ _ h => h) (Or.inl ⟨by rfl, ?_⟩) hHeld ?_ ?_
     rotate_left
     ·rintro w' ⟨s0, s1, s2, s3, s4⟩
      go_simp
      with_reducible rfl
     rotate_left
     ·simp only [Act.put, xq1, xq2, xq3, i64_w, i32_w]
      rfl
     refine take_ (i := 4) (N := some 39) (v := ?_) (a' := ?_) #[true, true, true, true, true, true, false, false, false, false, false, false, false, false] rfl rfl (z31 HT_.out HW_.out (by kernel_rfl)) (fun _ _ _ h => h) (Or.inl ⟨by rfl, ?_⟩) hHeld ?_ ?_
     rotate_left
     ·rintro w' ⟨s0, s1, s2, s3, s4⟩
      go_simp
      with_reducible rfl
     rotate_left
     ·simp only [Act.put, xq1, xq2, xq3, i64_w, i32_w]
      rfl
     refine one_ (i := 6) (N := some 41) #[true, true, true, true, true, true, true, false, false, false, false, false, false, false] rfl rfl (one_of HT_.out (by kernel_rfl)) (by decide) (fun K hK => ?_)
     refine goes_ Try.func38 (by kernel_rfl) rfl #[.agg #[.int .i64 a0_0, .slice A0_1 l0_1.length c0_1, .slice A0_2 l0_2.length c0_2], .slice Ao45 t349.length co45] (by rfl) rfl rfl (by (try simp only [List.map_toArray, List.map_cons, List.map_nil]); first | done | rfl | (simp only [List.length_drop, List.length_take]; rfl)) ?_
     with_reducible refine (pr_Fewest.calls k a0_0 _ _ l0_1 _ _ l0_2 _ _ t349 t353 t354 _ ?side1 ?side2 ?side3 ?side4 ?side5 ?side6 A9.out).mono ?_
     (case side1 => repeat (first | exact (Kd.C_below HR0_1.out HB.out) | (with_reducible refine Kd.C_alloc ?_ _) | (with_reducible refine Kd.C_drewN ?_ _) | (with_reducible refine Kd.C_drew ?_)))
     (case side2 => exact HC0_1.out)
     (case side3 => repeat (first | exact (Kd.C_below HR0_2.out HB.out) | (with_reducible refine Kd.C_alloc ?_ _) | (with_reducible refine Kd.C_drewN ?_ _) | (with_reducible refine Kd.C_drew ?_)))
     (case side4 => exact HC0_2.out)
     (case side5 => repeat (first | exact (Kd.S_reads' HO351.out).2.2 | (with_reducible refine Kd.C_alloc ?_ _) | (with_reducible refine Kd.C_drewN ?_ _) | (with_reducible refine Kd.C_drew ?_)))
     (case side6 => exact (Kd.S_reads' HO351.out).2.1)
     rintro e w46 ⟨rfl, hb⟩
     refine ⟨_, rfl, ?_⟩
     have n0_ := mkA (Kd.R_below (by (with_reducible repeat (first | apply Kd.R_alloc | apply Kd.R_drewN | apply Kd.R_drew)); exact HO341.out) hb)
     have n1_ := mkA (Kd.R_below (by (with_reducible repeat (first | apply Kd.R_alloc | apply Kd.R_drewN | apply Kd.R_drew)); exact HO344.out) hb)
     have n2_ := mkA (Kd.S_below (by (with_reducible repeat (first | apply Kd.S_alloc | apply Kd.S_drewN | apply Kd.S_drew)); exact HO351.out) hb)
     have n3_ := mkA (blk_below (g := gb335) (o := .cells #[.int .i64 a0_0, .slice A0_1 l0_1.length c0_1, .slice A0_2 l0_2.length c0_2] 25 (0, 0)) (by (with_reducible repeat (first | refine z16 ?_ _ | refine z22 ?_ | refine z19 ?_ _)); exact BK335.out) hb)
     have n4_ := mkA (blk_below (g := gb348) (o := .cells #[.int .i64 t345, .int .i64 t346] 44 (0, 0)) (by (with_reducible repeat (first | refine z16 ?_ _ | refine z22 ?_ | refine z19 ?_ _)); exact BK348.out) hb)
     have n5_ := mkA (z17 (by repeat (first | (with_reducible first | exact HB.out | apply z11 | apply z10 | apply z12 | refine z15 ?_ GE335.out | refine z15 ?_ GE348.out) | exact HB.out)) hb)
     clear HO341
     clear HO344
     clear HO351
     clear BK335
     clear BK348
     clear HB
     have HO341 := n0_
     have HO344 := n1_
     have HO351 := n2_
     have BK335 := n3_
     have BK348 := n4_
     have HB := n5_
     clear n0_ n1_ n2_ n3_ n4_ n5_
     (try clear hb)
     (try clear hb2)
     (try clear hk)
     (try clear hi)
     refine hK.out _ _ ⟨(z13 BK348.out 0).trans rfl, (z13 BK348.out 1).trans rfl, (z13 BK335.out 0).trans rfl, (z13 BK335.out 1).trans rfl, (z13 BK335.out 2).trans rfl⟩ (fun hHeld => ?_)
     clear hK K
     refine norm_ (a' := ?_) ?_ ?_
     rotate_left
     ·show Act.put _ (some 41) _ = _
      simp only [Act.put, xq1, xq2, xq3, i64_w, i32_w]
      rfl
     refine one_ (i := 7) (N := some 42) #[true, true, true, true, true, true, true, true, false, false, false, false, false, false] rfl rfl (one_of HT_.out (by kernel_rfl)) (by decide) (fun K hK => ?_)
     refine goes_ Try.func26 (by kernel_rfl) rfl #[.agg #[.int .i64 t353, .int .i64 t354]] (by rfl) rfl rfl (by (try simp only [List.map_toArray, List.map_cons, List.map_nil]); first | done | rfl | (simp only [List.length_drop, List.length_take]; rfl)) ?_
     with_reducible refine (pl_to.calls t353 t354 t355 t356 _ A10.out).mono ?_
     rintro e w47 ⟨rfl, hb⟩
     refine ⟨_, rfl, ?_⟩
     have n0_ := mkA (Kd.R_below (by (with_reducible repeat (first | apply Kd.R_alloc | apply Kd.R_drewN | apply Kd.R_drew)); exact HO341.out) hb)
     have n1_ := mkA (Kd.R_below (by (with_reducible repeat (first | apply Kd.R_alloc | apply Kd.R_drewN | apply Kd.R_drew)); exact HO344.out) hb)
     have n2_ := mkA (Kd.S_below (by (with_reducible repeat (first | apply Kd.S_alloc | apply Kd.S_drewN | apply Kd.S_drew)); exact HO351.out) hb)
     have n3_ := mkA (blk_below (g := gb335) (o := .cells #[.int .i64 a0_0, .slice A0_1 l0_1.length c0_1, .slice A0_2 l0_2.length c0_2] 25 (0, 0)) (by (with_reducible repeat (first | refine z16 ?_ _ | refine z22 ?_ | refine z19 ?_ _)); exact BK335.out) hb)
     have n4_ := mkA (blk_below (g := gb348) (o := .cells #[.int .i64 t345, .int .i64 t346] 44 (0, 0)) (by (with_reducible repeat (first | refine z16 ?_ _ | refine z22 ?_ | refine z19 ?_ _)); exact BK348.out) hb)
     have n5_ := mkA (z17 (by repeat (first | (with_reducible first | exact HB.out | apply z11 | apply z10 | apply z12 | refine z15 ?_ GE335.out | refine z15 ?_ GE348.out) | exact HB.out)) hb)
     clear HO341
     clear HO344
     clear HO351
     clear BK335
     clear BK348
     clear HB
     have HO341 := n0_
     have HO344 := n1_
     have HO351 := n2_
     have BK335 := n3_
     have BK348 := n4_
     have HB := n5_
     clear n0_ n1_ n2_ n3_ n4_ n5_
     (try clear hb)
     (try clear hb2)
     (try clear hk)
     (try clear hi)
     refine hK.out _ _ ⟨(z13 BK348.out 0).trans rfl, (z13 BK348.out 1).trans rfl, (z13 BK335.out 0).trans rfl, (z13 BK335.out 1).trans rfl, (z13 BK335.out 2).trans rfl⟩ (fun hHeld => ?_)
     clear hK K
     refine norm_ (a' := ?_) ?_ ?_
     rotate_left
     ·show Act.put _ (some 42) _ = _
      simp only [Act.put, xq1, xq2, xq3, i64_w, i32_w]
      rfl
     refine pure_ (i := 8) (N := some 43) (v := ?_) (a' := ?_) #[true, true, true, true, true, true, true, true, true, false, false, false, false, false] rfl rfl (any_of HT_.out (by kernel_rfl)) (fun _ _ _ h => h) (Or.inl ⟨by rfl, ?_⟩) ?_ ?_
     rotate_left
     ·intro w'
      go_simp
      with_reducible rfl
     rotate_left
     ·simp only [Act.put, xq1, xq2, xq3, i64_w, i32_w]
      rfl
     refine pure_ (i := 9) (N := some 44) (v := ?_) (a' := ?_) #[true, true, true, true, true, true, true, true, true, true, false, false, false, false] rfl rfl (any_of HT_.out (by kernel_rfl)) (fun _ _ _ h => h) (Or.inl ⟨by rfl, ?_⟩) ?_ ?_
     rotate_left
     ·intro w'
      go_simp
      with_reducible rfl
     rotate_left
     ·simp only [Act.put, xq1, xq2, xq3, i64_w, i32_w]
      rfl
     refine pure_ (i := 10) (N := some 45) (v := ?_) (a' := ?_) #[true, true, true, true, true, true, true, true, true, true, true, false, false, false] rfl rfl (any_of HT_.out (by kernel_rfl)) (fun _ _ _ h => h) (Or.inl ⟨by rfl, ?_⟩) ?_ ?_
     rotate_left
     ·intro w'
      go_simp
      with_reducible rfl
     rotate_left
     ·simp only [Act.put, xq1, xq2, xq3, i64_w, i32_w]
      rfl
     refine pure_ (i := 11) (N := some 46) (v := undef) (a' := ?_) #[true, true, true, true, true, true, true, true, true, true, true, true, false, false] rfl rfl (any_of HT_.out (by kernel_rfl)) (fun _ _ _ h => h) (Or.inr ⟨by rfl, rfl⟩) ?_ ?_
     rotate_left
     ·simp only [Act.put, xq1, xq2, xq3, i64_w, i32_w]
      rfl
     refine pure_ (i := 12) (N := some 47) (v := ?_) (a' := ?_) #[true, true, true, true, true, true, true, true, true, true, true, true, true, false] rfl rfl (any_of HT_.out (by kernel_rfl)) (fun _ _ _ h => h) (Or.inl ⟨by rfl, ?_⟩) ?_ ?_
     rotate_left
     ·intro w'
      go_simp
      with_reducible rfl
     rotate_left
     ·simp only [Act.put, xq1, xq2, xq3, i64_w, i32_w]
      rfl
     refine pure_ (i := 13) (N := some 2) (v := ?_) (a' := ?_) #[true, true, true, true, true, true, true, true, true, true, true, true, true, true] rfl rfl (any_of HT_.out (by kernel_rfl)) (fun _ _ _ h => h) (Or.inl ⟨by rfl, ?_⟩) ?_ ?_
     rotate_left
     ·intro w'
      go_simp
      with_reducible rfl
     rotate_left
     ·simp only [Act.put, xq1, xq2, xq3, i64_w, i32_w]
      rfl
     refine done_ (done_of HT_.out (by kernel_rfl)) ?_
     try go_wp2
     go_ret
     exact ⟨by first | rfl | (simp [z21, z20] <;> rfl) | (simp [*, z21, z20] <;> rfl), by repeat (first | (with_reducible first | exact HB.out | apply z11 | apply z10 | apply z12 | refine z15 ?_ GE335.out | refine z15 ?_ GE348.out) | exact HB.out)⟩
   ·rw [if_neg c8] at H
    have c8b0 : (t347 == 0) = false := beq_eq_false_iff_ne.mpr c8
    have c8b1 : (t347 != 0) = true := bne_iff_ne.mpr c8
    obtain rfl := Option.some.inj H
    go_enter Try.func5, Try.ntmps5
    try go_wp2_with (first | ((with_reducible refine z26 (N := 1) rfl ?_); refine z25 ?hg (N := 1) ?hd (cs := #[.int .i64 a0_0, .slice A0_1 l0_1.length c0_1, .slice A0_2 l0_2.length c0_2]) (t := 25) ?hr ?_; (case hd => rfl); (case hg => rfl); (case hr => first | (go_simp; done) | (go_simp; rfl)); intro gb335 hg w48 hbox hb; have n0_ := mkA (z17 (by repeat (first | (with_reducible first | exact HB.out | apply z11 | apply z10 | apply z12) | exact HB.out)) hb); have n1_ := mkA (hbox); have n2_ := mkA ((by rw [hg]; exact (z18 (by repeat (first | (with_reducible first | exact HB.out | apply z11 | apply z10 | apply z12) | exact HB.out))) : w.heap.size ≤ gb335)); have n3_ := mkA ((by rw [hg]; exact (z18 (by repeat (first | (with_reducible first | exact HB.out | apply z11 | apply z10 | apply z12) | exact HB.out))) : w.heap.size ≤ gb335)); clear HB; have HB := n0_; have BK335 := n1_; have GW335 := n2_; have GE335 := n3_; clear n0_ n1_ n2_ n3_; clear hb hbox hg; have hcz49_0 : w48.cell? ⟨gb335, 0, none⟩ = some (.int .i64 a0_0) := (z13 BK335.out 0).trans rfl; have hcz49_1 : w48.cell? ⟨gb335, 1, none⟩ = some (.slice A0_1 l0_1.length c0_1) := (z13 BK335.out 1).trans rfl; have hcz49_2 : w48.cell? ⟨gb335, 2, none⟩ = some (.slice A0_2 l0_2.length c0_2) := (z13 BK335.out 2).trans rfl; have hfz49_0 := z14 BK335.out 0; have hfz49_1 := z14 BK335.out 1; have hfz49_2 := z14 BK335.out 2) | ((with_reducible refine z24 (f := 20) rfl ?_); refine goesL_ (some 8) rfl rfl Try.func20 (by kernel_rfl) rfl #[.agg #[.int .i64 a0_0, .slice A0_1 l0_1.length c0_1, .slice A0_2 l0_2.length c0_2]] rfl (by (try simp only [List.map_toArray, List.map_cons, List.map_nil]); first | done | rfl | (simp only [List.length_drop, List.length_take]; rfl)) ?_; (with_reducible refine (pl_Thin.calls a0_0 _ _ l0_1 _ _ l0_2 true _ ?side1 ?side2 ?side3 ?side4 A2.out).mono ?_); (case side1 => repeat (first | exact (Kd.C_below HR0_1.out HB.out) | (with_reducible refine Kd.C_alloc ?_ _) | (with_reducible refine Kd.C_drewN ?_ _) | (with_reducible refine Kd.C_drew ?_))); (case side2 => exact HC0_1.out); (case side3 => repeat (first | exact (Kd.C_below HR0_2.out HB.out) | (with_reducible refine Kd.C_alloc ?_ _) | (with_reducible refine Kd.C_drewN ?_ _) | (with_reducible refine Kd.C_drew ?_))); (case side4 => exact HC0_2.out); rintro e w50 ⟨rfl, hb⟩; refine ⟨_, rfl, ?_⟩; have n0_ := mkA (blk_below (g := gb335) (o := .cells #[.int .i64 a0_0, .slice A0_1 l0_1.length c0_1, .slice A0_2 l0_2.length c0_2] 25 (0, 0)) (by (with_reducible repeat (first | refine z16 ?_ _ | refine z22 ?_ | refine z19 ?_ _)); exact BK335.out) hb); have n1_ := mkA (z17 (by repeat (first | (with_reducible first | exact HB.out | apply z11 | apply z10 | apply z12 | refine z15 ?_ GE335.out) | exact HB.out)) hb); clear BK335; clear HB; have BK335 := n0_; have HB := n1_; clear n0_ n1_; (try clear hb); (try clear hb2); (try clear hk); (try clear hi); have hcz51_0 : w50.cell? ⟨gb335, 0, none⟩ = some (.int .i64 a0_0) := (z13 BK335.out 0).trans rfl; have hcz51_1 : w50.cell? ⟨gb335, 1, none⟩ = some (.slice A0_1 l0_1.length c0_1) := (z13 BK335.out 1).trans rfl; have hcz51_2 : w50.cell? ⟨gb335, 2, none⟩ = some (.slice A0_2 l0_2.length c0_2) := (z13 BK335.out 2).trans rfl; have hfz51_0 := z14 BK335.out 0; have hfz51_1 := z14 BK335.out 1; have hfz51_2 := z14 BK335.out 2) | ((with_reducible refine z24 (f := 23) rfl ?_); refine goesL_ (some 13) rfl rfl Try.func23 (by kernel_rfl) rfl #[.agg #[.int .i64 a0_0, .slice A0_1 l0_1.length c0_1, .slice A0_2 l0_2.length c0_2]] rfl (by (try simp only [List.map_toArray, List.map_cons, List.map_nil]); first | done | rfl | (simp only [List.length_drop, List.length_take]; rfl)) ?_; (with_reducible refine (pl_Slate.calls k a0_0 _ _ l0_1 _ _ l0_2 t338 t339 t342 _ ?side1 ?side2 ?side3 ?side4 A4.out).mono ?_); (case side1 => repeat (first | exact (Kd.C_below HR0_1.out HB.out) | (with_reducible refine Kd.C_alloc ?_ _) | (with_reducible refine Kd.C_drewN ?_ _) | (with_reducible refine Kd.C_drew ?_))); (case side2 => exact HC0_1.out); (case side3 => repeat (first | exact (Kd.C_below HR0_2.out HB.out) | (with_reducible refine Kd.C_alloc ?_ _) | (with_reducible refine Kd.C_drewN ?_ _) | (with_reducible refine Kd.C_drew ?_))); (case side4 => exact HC0_2.out); rintro e w52 ⟨v340, v343, rfl, ho0, ho1, hb⟩; refine ⟨_, rfl, ?_⟩; have n0_ := mkA (Kd.R_lower ho0 (z18 (by repeat (first | (with_reducible first | exact HB.out | apply z11 | apply z10 | apply z12 | refine z15 ?_ GE335.out) | exact HB.out)))); have n1_ := mkA (Kd.R_lower ho1 (z18 (by repeat (first | (with_reducible first | exact HB.out | apply z11 | apply z10 | apply z12 | refine z15 ?_ GE335.out) | exact HB.out)))); have n2_ := mkA (blk_below (g := gb335) (o := .cells #[.int .i64 a0_0, .slice A0_1 l0_1.length c0_1, .slice A0_2 l0_2.length c0_2] 25 (0, 0)) (by (with_reducible repeat (first | refine z16 ?_ _ | refine z22 ?_ | refine z19 ?_ _)); exact BK335.out) hb); have n3_ := mkA (z17 (by repeat (first | (with_reducible first | exact HB.out | apply z11 | apply z10 | apply z12 | refine z15 ?_ GE335.out) | exact HB.out)) hb); clear BK335; clear HB; have HO341 := n0_; have HO344 := n1_; have BK335 := n2_; have HB := n3_; clear n0_ n1_ n2_ n3_; (try clear hb); (try clear hb2); (try clear hk); (try clear hi); (try clear ho0); (try clear ho1); obtain ⟨Ao53, co53, eo53⟩ := Kd.R_slice HO341.out; subst eo53; obtain ⟨Ao54, co54, eo54⟩ := Kd.R_slice HO344.out; subst eo54) | ((with_reducible refine z24 (f := 37) rfl ?_); refine goesL_ (some 14) rfl rfl Try.func37 (by kernel_rfl) rfl #[.agg #[.int .i64 t338, .slice Ao53 t339.length co53, .slice Ao54 t342.length co54]] rfl (by (try simp only [List.map_toArray, List.map_cons, List.map_nil]); first | done | rfl | (simp only [List.length_drop, List.length_take]; rfl)) ?_; (with_reducible refine (soap_Fewest.calls t338 _ _ t339 _ _ t342 t345 t346 t347 _ ?side1 ?side2 ?side3 ?side4 A5.out).mono ?_); (case side1 => repeat (first | exact (Kd.R_reads' HO341.out).2.2 | (with_reducible refine Kd.C_alloc ?_ _) | (with_reducible refine Kd.C_drewN ?_ _) | (with_reducible refine Kd.C_drew ?_))); (case side2 => exact (Kd.R_reads' HO341.out).2.1); (case side3 => repeat (first | exact (Kd.R_reads' HO344.out).2.2 | (with_reducible refine Kd.C_alloc ?_ _) | (with_reducible refine Kd.C_drewN ?_ _) | (with_reducible refine Kd.C_drew ?_))); (case side4 => exact (Kd.R_reads' HO344.out).2.1); rintro e w55 ⟨rfl, hb⟩; refine ⟨_, rfl, ?_⟩; have n0_ := mkA (Kd.R_below (by (with_reducible repeat (first | apply Kd.R_alloc | apply Kd.R_drewN | apply Kd.R_drew)); exact HO341.out) hb); have n1_ := mkA (Kd.R_below (by (with_reducible repeat (first | apply Kd.R_alloc | apply Kd.R_drewN | apply Kd.R_drew)); exact HO344.out) hb); have n2_ := mkA (blk_below (g := gb335) (o := .cells #[.int .i64 a0_0, .slice A0_1 l0_1.length c0_1, .slice A0_2 l0_2.length c0_2] 25 (0, 0)) (by (with_reducible repeat (first | refine z16 ?_ _ | refine z22 ?_ | refine z19 ?_ _)); exact BK335.out) hb); have n3_ := mkA (z17 (by repeat (first | (with_reducible first | exact HB.out | apply z11 | apply z10 | apply z12 | refine z15 ?_ GE335.out) | exact HB.out)) hb); clear HO341; clear HO344; clear BK335; clear HB; have HO341 := n0_; have HO344 := n1_; have BK335 := n2_; have HB := n3_; clear n0_ n1_ n2_ n3_; (try clear hb); (try clear hb2); (try clear hk); (try clear hi)) | ((with_reducible refine z26 (N := 3) rfl ?_); refine z25 ?hg (N := 3) ?hd (cs := #[.int .i64 0, .int .i64 0]) (t := 44) ?hr ?_; (case hd => rfl); (case hg => rfl); (case hr => first | (go_simp; done) | (go_simp; rfl)); intro gb348 hg w56 hbox hb; have n0_ := mkA (Kd.R_below (by (with_reducible repeat (first | apply Kd.R_alloc | apply Kd.R_drewN | apply Kd.R_drew)); exact HO341.out) hb); have n1_ := mkA (Kd.R_below (by (with_reducible repeat (first | apply Kd.R_alloc | apply Kd.R_drewN | apply Kd.R_drew)); exact HO344.out) hb); have n2_ := mkA (blk_below (g := gb335) (o := .cells #[.int .i64 a0_0, .slice A0_1 l0_1.length c0_1, .slice A0_2 l0_2.length c0_2] 25 (0, 0)) (by (with_reducible repeat (first | refine z16 ?_ _ | refine z22 ?_ | refine z19 ?_ _)); exact BK335.out) hb); have n3_ := mkA (z17 (by repeat (first | (with_reducible first | exact HB.out | apply z11 | apply z10 | apply z12 | refine z15 ?_ GE335.out) | exact HB.out)) hb); have n4_ := mkA (hbox); have n5_ := mkA ((by rw [hg]; exact (z18 (by repeat (first | (with_reducible first | exact HB.out | apply z11 | apply z10 | apply z12 | refine z15 ?_ GE335.out) | exact HB.out))) : w.heap.size ≤ gb348)); have n6_ := mkA ((by rw [hg]; exact (z18 (by repeat (first | (with_reducible first | exact HB.out | apply z11 | apply z10 | apply z12 | refine z15 ?_ GE335.out) | exact HB.out))) : w.heap.size ≤ gb348)); have n7_ := mkA ((by rw [hg]; exact Nat.ne_of_lt (blk_lt (g := gb335) (o := .cells #[.int .i64 a0_0, .slice A0_1 l0_1.length c0_1, .slice A0_2 l0_2.length c0_2] 25 (0, 0)) (by (with_reducible repeat (first | refine z16 ?_ _ | refine z22 ?_ | refine z19 ?_ _)); exact BK335.out)) : gb335 ≠ gb348)); have n8_ := mkA ((by rw [hg]; exact Nat.ne_of_gt (blk_lt (g := gb335) (o := .cells #[.int .i64 a0_0, .slice A0_1 l0_1.length c0_1, .slice A0_2 l0_2.length c0_2] 25 (0, 0)) (by (with_reducible repeat (first | refine z16 ?_ _ | refine z22 ?_ | refine z19 ?_ _)); exact BK335.out)) : gb348 ≠ gb335)); clear HO341; clear HO344; clear BK335; clear HB; have HO341 := n0_; have HO344 := n1_; have BK335 := n2_; have HB := n3_; have BK348 := n4_; have GW348 := n5_; have GE348 := n6_; have NB335_348 := n7_; have NB348_335 := n8_; clear n0_ n1_ n2_ n3_ n4_ n5_ n6_ n7_ n8_; clear hb hbox hg; have hnb57 := NB348_335.out; have hnc57 := NB335_348.out; have hcz58_0 : w56.cell? ⟨gb348, 0, none⟩ = some (.int .i64 0) := (z13 BK348.out 0).trans rfl; have hcz58_1 : w56.cell? ⟨gb348, 1, none⟩ = some (.int .i64 0) := (z13 BK348.out 1).trans rfl; have hfz58_0 := z14 BK348.out 0; have hfz58_1 := z14 BK348.out 1; have hcz59_0 : w56.cell? ⟨gb335, 0, none⟩ = some (.int .i64 a0_0) := (z13 BK335.out 0).trans rfl; have hcz59_1 : w56.cell? ⟨gb335, 1, none⟩ = some (.slice A0_1 l0_1.length c0_1) := (z13 BK335.out 1).trans rfl; have hcz59_2 : w56.cell? ⟨gb335, 2, none⟩ = some (.slice A0_2 l0_2.length c0_2) := (z13 BK335.out 2).trans rfl; have hfz59_0 := z14 BK335.out 0; have hfz59_1 := z14 BK335.out 1; have hfz59_2 := z14 BK335.out 2) | ((with_reducible refine z24 (f := 25) rfl ?_); refine goesL_ (some 19) rfl rfl Try.func25 (by kernel_rfl) rfl #[.agg #[.int .i64 a0_0, .slice A0_1 l0_1.length c0_1, .slice A0_2 l0_2.length c0_2]] rfl (by (try simp only [List.map_toArray, List.map_cons, List.map_nil]); first | done | rfl | (simp only [List.length_drop, List.length_take]; rfl)) ?_; (with_reducible refine (pl_sure.calls k a0_0 _ _ l0_1 _ _ l0_2 t349 t352 _ ?side1 ?side2 ?side3 ?side4 A6.out).mono ?_); (case side1 => exact Kd.C_below HR0_1.out (by repeat (first | (with_reducible first | exact HB.out | apply z11 | apply z10 | apply z12 | refine z15 ?_ GE335.out | refine z15 ?_ GE348.out) | exact HB.out))); (case side2 => exact HC0_1.out); (case side3 => exact Kd.C_below HR0_2.out (by repeat (first | (with_reducible first | exact HB.out | apply z11 | apply z10 | apply z12 | refine z15 ?_ GE335.out | refine z15 ?_ GE348.out) | exact HB.out))); (case side4 => exact HC0_2.out); rintro e w60 ⟨v350, rfl, ho0, hb⟩; refine ⟨_, rfl, ?_⟩; have n0_ := mkA (Kd.R_below (by (with_reducible repeat (first | apply Kd.R_alloc | apply Kd.R_drewN | apply Kd.R_drew)); exact (Kd.R_mono (Kd.R_far (p := ⟨gb348, 1, none⟩) (Kd.R_far (p := ⟨gb348, 0, none⟩) (Kd.R_types HO341.out BK348.out (by decide)) (fun _ hk => hk.2) (.int .i64 t345)) (fun _ hk => hk.2) (.int .i64 t346)) (fun _ h_ => h_.1))) hb); have n1_ := mkA (Kd.R_below (by (with_reducible repeat (first | apply Kd.R_alloc | apply Kd.R_drewN | apply Kd.R_drew)); exact (Kd.R_mono (Kd.R_far (p := ⟨gb348, 1, none⟩) (Kd.R_far (p := ⟨gb348, 0, none⟩) (Kd.R_types HO344.out BK348.out (by decide)) (fun _ hk => hk.2) (.int .i64 t345)) (fun _ hk => hk.2) (.int .i64 t346)) (fun _ h_ => h_.1))) hb); have n2_ := mkA (Kd.S_lower ho0 (z18 (by repeat (first | (with_reducible first | exact HB.out | apply z11 | apply z10 | apply z12 | refine z15 ?_ GE335.out | refine z15 ?_ GE348.out) | exact HB.out)))); have n3_ := mkA (blk_below (g := gb335) (o := .cells #[.int .i64 a0_0, .slice A0_1 l0_1.length c0_1, .slice A0_2 l0_2.length c0_2] 25 (0, 0)) (by (with_reducible repeat (first | refine z16 ?_ _ | refine z22 ?_ | refine z19 ?_ _)); refine blk_far ?_ NB335_348.out _; (with_reducible repeat (first | refine z16 ?_ _ | refine z22 ?_ | refine z19 ?_ _)); refine blk_far ?_ NB335_348.out _; (with_reducible repeat (first | refine z16 ?_ _ | refine z22 ?_ | refine z19 ?_ _)); exact BK335.out) hb); have n4_ := mkA (blk_below (g := gb348) (o := .cells #[.int .i64 t345, .int .i64 t346] 44 (0, 0)) (by (with_reducible repeat (first | refine z16 ?_ _ | refine z22 ?_ | refine z19 ?_ _)); refine blk_put (cs := #[.int .i64 t345, .int .i64 0]) ?_ 1 _ rfl; (with_reducible repeat (first | refine z16 ?_ _ | refine z22 ?_ | refine z19 ?_ _)); refine blk_put (cs := #[.int .i64 0, .int .i64 0]) ?_ 0 _ rfl; (with_reducible repeat (first | refine z16 ?_ _ | refine z22 ?_ | refine z19 ?_ _)); exact BK348.out) hb); have n5_ := mkA (z17 (by repeat (first | (with_reducible first | exact HB.out | apply z11 | apply z10 | apply z12 | refine z15 ?_ GE335.out | refine z15 ?_ GE348.out) | exact HB.out)) hb); clear HO341; clear HO344; clear BK335; clear BK348; clear HB; have HO341 := n0_; have HO344 := n1_; have HO351 := n2_; have BK335 := n3_; have BK348 := n4_; have HB := n5_; clear n0_ n1_ n2_ n3_ n4_ n5_; (try clear hb); (try clear hb2); (try clear hk); (try clear hi); (try clear ho0)))
    have n0_ := mkA (Kd.R_drew HO341.out)
    have n1_ := mkA (Kd.R_drew HO344.out)
    have n2_ := mkA (Kd.S_drew HO351.out)
    have n3_ := mkA (z22 BK335.out)
    have n4_ := mkA (z22 BK348.out)
    have n5_ := mkA (z12 HB.out)
    clear HO341
    clear HO344
    clear HO351
    clear BK335
    clear BK348
    clear HB
    have HO341 := n0_
    have HO344 := n1_
    have HO351 := n2_
    have BK335 := n3_
    have BK348 := n4_
    have HB := n5_
    clear n0_ n1_ n2_ n3_ n4_ n5_
    refine start_ (n := 14) (S := fun w' => True) (ds := []) #[false, false, false, false, false, false, false, false, false, false, false, false, false, false] (by kernel_rfl) rfl rfl trivial (fun hHeld => ?_); refine z42 pl_SoapFewest.tab7 pl_SoapFewest.bits7 (fun HT_ HW_ => ?_)
    generalize w60.drew = w61 at HO341 HO344 HO351 BK335 BK348 HB hHeld ⊢
    refine pure_ (i := 0) (N := some 35) (v := ?_) (a' := ?_) #[true, false, false, false, false, false, false, false, false, false, false, false, false, false] rfl rfl (any_of HT_.out (by kernel_rfl)) (fun _ _ _ h => h) (Or.inl ⟨by rfl, ?_⟩) ?_ ?_
    rotate_left
    ·intro w'
     go_simp
     with_reducible rfl
    rotate_left
    ·simp only [Act.put, xq1, xq2, xq3, i64_w, i32_w]
     rfl
    refine pure_ (i := 1) (N := some 36) (v := ?_) (a' := ?_) #[true, true, false, false, false, false, false, false, false, false, false, false, false, false] rfl rfl (any_of HT_.out (by kernel_rfl)) (fun _ _ _ h => h) (Or.inl ⟨by rfl, ?_⟩) ?_ ?_
    rotate_left
    ·intro w'
     go_simp
     with_reducible rfl
    rotate_left
    ·simp only [Act.put, xq1, xq2, xq3, i64_w, i32_w]
     rfl
    refine pure_ (i := 2) (N := some 37) (v := ?_) (a' := ?_) #[true, true, true, false, false, false, false, false, false, false, false, false, false, false] rfl rfl (any_of HT_.out (by kernel_rfl)) (fun _ _ _ h => h) (Or.inl ⟨by rfl, ?_⟩) ?_ ?_
    rotate_left
    ·intro w'
     go_simp
     with_reducible rfl
    rotate_left
    ·simp only [Act.put, xq1, xq2, xq3, i64_w, i32_w]
     rfl
    refine pure_ (i := 3) (N := some 38) (v := undef) (a' := ?_) #[true, true, true, true, false, false, false, false, false, false, false, false, false, false] rfl rfl (any_of HT_.out (by kernel_rfl)) (fun _ _ _ h => h) (Or.inr ⟨by rfl, rfl⟩) ?_ ?_
    rotate_left
    ·simp only [Act.put, xq1, xq2, xq3, i64_w, i32_w]
     rfl
    refine pure_ (i := 4) (N := some 39) (v := undef) (a' := ?_) #[true, true, true, true, true, false, false, false, false, false, false, false, false, false] rfl rfl (any_of HT_.out (by kernel_rfl)) (fun _ _ _ h => h) (Or.inr ⟨by rfl, rfl⟩) ?_ ?_
    rotate_left
    ·simp only [Act.put, xq1, xq2, xq3, i64_w, i32_w]
     rfl
    refine pure_ (i := 5) (N := some 40) (v := undef) (a' := ?_) #[true, true, true, true, true, true, false, false, false, false, false, false, false, false] rfl rfl (any_of HT_.out (by kernel_rfl)) (fun _ _ _ h => h) (Or.inr ⟨by rfl, rfl⟩) ?_ ?_
    rotate_left
    ·simp only [Act.put, xq1, xq2, xq3, i64_w, i32_w]
     rfl
    refine pure_ (i := 6) (N := some 41) (v := undef) (a' := ?_) #[true, true, true, true, true, true, true, false, false, false, false, false, false, false] rfl rfl (any_of HT_.out (by kernel_rfl)) (fun _ _ _ h => h) (Or.inr ⟨by rfl, rfl⟩) ?_ ?_
    rotate_left
    ·simp only [Act.put, xq1, xq2, xq3, i64_w, i32_w]
     rfl
    refine pure_ (i := 7) (N := some 42) (v := undef) (a' := ?_) #[true, true, true, true, true, true, true, true, false, false, false, false, false, false] rfl rfl (any_of HT_.out (by kernel_rfl)) (fun _ _ _ h => h) (Or.inr ⟨by rfl, rfl⟩) ?_ ?_
    rotate_left
    ·simp only [Act.put, xq1, xq2, xq3, i64_w, i32_w]
     rfl
    refine pure_ (i := 8) (N := some 43) (v := undef) (a' := ?_) #[true, true, true, true, true, true, true, true, true, false, false, false, false, false] rfl rfl (any_of HT_.out (by kernel_rfl)) (fun _ _ _ h => h) (Or.inr ⟨by rfl, rfl⟩) ?_ ?_
    rotate_left
    ·simp only [Act.put, xq1, xq2, xq3, i64_w, i32_w]
     rfl
    refine pure_ (i := 9) (N := some 44) (v := ?_) (a' := ?_) #[true, true, true, true, true, true, true, true, true, true, false, false, false, false] rfl rfl (any_of HT_.out (by kernel_rfl)) (fun _ _ _ h => h) (Or.inl ⟨by rfl, ?_⟩) ?_ ?_
    rotate_left
    ·intro w'
     go_simp
     with_reducible rfl
    rotate_left
    ·simp only [Act.put, xq1, xq2, xq3, i64_w, i32_w]
     rfl
    refine pure_ (i := 10) (N := some 45) (v := ?_) (a' := ?_) #[true, true, true, true, true, true, true, true, true, true, true, false, false, false] rfl rfl (any_of HT_.out (by kernel_rfl)) (fun _ _ _ h => h) (Or.inl ⟨by rfl, ?_⟩) ?_ ?_
    rotate_left
    ·intro w'
     go_simp
     with_reducible rfl
    rotate_left
    ·simp only [Act.put, xq1, xq2, xq3, i64_w, i32_w]
     rfl
    refine pure_ (i := 11) (N := some 46) (v := undef) (a' := ?_) #[true, true, true, true, true, true, true, true, true, true, true, true, false, false] rfl rfl (any_of HT_.out (by kernel_rfl)) (fun _ _ _ h => h) (Or.inr ⟨by rfl, rfl⟩) ?_ ?_
    rotate_left
    ·simp only [Act.put, xq1, xq2, xq3, i64_w, i32_w]
     rfl
    refine pure_ (i := 12) (N := some 47) (v := ?_) (a' := ?_) #[true, true, true, true, true, true, true, true, true, true, true, true, true, false] rfl rfl (any_of HT_.out (by kernel_rfl)) (fun _ _ _ h => h) (Or.inl ⟨by rfl, ?_⟩) ?_ ?_
    rotate_left
    ·intro w'
     go_simp
     with_reducible rfl
    rotate_left
    ·simp only [Act.put, xq1, xq2, xq3, i64_w, i32_w]
     rfl
    refine pure_ (i := 13) (N := some 2) (v := ?_) (a' := ?_) #[true, true, true, true, true, true, true, true, true, true, true, true, true, true] rfl rfl (any_of HT_.out (by kernel_rfl)) (fun _ _ _ h => h) (Or.inl ⟨by rfl, ?_⟩) ?_ ?_
    rotate_left
    ·intro w'
     go_simp
     with_reducible rfl
    rotate_left
    ·simp only [Act.put, xq1, xq2, xq3, i64_w, i32_w]
     rfl
    refine done_ (done_of HT_.out (by kernel_rfl)) ?_
    try go_wp2
    go_ret
    exact ⟨by first | rfl | (simp [z21, z20] <;> rfl) | (simp [*, z21, z20] <;> rfl), by repeat (first | (with_reducible first | exact HB.out | apply z11 | apply z10 | apply z12 | refine z15 ?_ GE335.out | refine z15 ?_ GE348.out) | exact HB.out)⟩
  ·rw [if_neg c7] at H
   have c7b0 : (t352 == 0) = false := beq_eq_false_iff_ne.mpr c7
   have c7b1 : (t352 != 0) = true := bne_iff_ne.mpr c7
   by_cases c62 : t347 = t352
   ·rw [if_pos c62] at H
    have c62b0 : (t347 == t352) = true := beq_iff_eq.mpr c62
    have c62b1 : (t347 != t352) = false := bne_eq_false_iff_eq.mpr c62
    clear c62
    by_cases c63 : (t345 == 0 && (t346 == 0)) = true
    ·rw [if_pos c63] at H
     have c63b0 : (t345 == 0 && (t346 == 0)) = true := c63
     (try (have c63b1 : decide (t345 = 0 && (t346 == 0)) = true := by simpa using c63))
     (try (have c63b2 : (t345 == 0 && (t346 == 0)) = true := by simpa using c63))
     clear c63
     replace H := Option.bind_eq_some_iff.mp H
     obtain ⟨t358, A640, H⟩ := H
     replace H : (some t358) = some r := H
     have A64 := mkA A640
     clear A640
     obtain rfl := Option.some.inj H
     go_enter Try.func5, Try.ntmps5
     go_wp2_with (first | ((with_reducible refine z26 (N := 1) rfl ?_); refine z25 ?hg (N := 1) ?hd (cs := #[.int .i64 a0_0, .slice A0_1 l0_1.length c0_1, .slice A0_2 l0_2.length c0_2]) (t := 25) ?hr ?_; (case hd => rfl); (case hg => rfl); (case hr => first | (go_simp; done) | (go_simp; rfl)); intro gb335 hg w65 hbox hb; have n0_ := mkA (z17 (by repeat (first | (with_reducible first | exact HB.out | apply z11 | apply z10 | apply z12) | exact HB.out)) hb); have n1_ := mkA (hbox); have n2_ := mkA ((by rw [hg]; exact (z18 (by repeat (first | (with_reducible first | exact HB.out | apply z11 | apply z10 | apply z12) | exact HB.out))) : w.heap.size ≤ gb335)); have n3_ := mkA ((by rw [hg]; exact (z18 (by repeat (first | (with_reducible first | exact HB.out | apply z11 | apply z10 | apply z12) | exact HB.out))) : w.heap.size ≤ gb335)); clear HB; have HB := n0_; have BK335 := n1_; have GW335 := n2_; have GE335 := n3_; clear n0_ n1_ n2_ n3_; clear hb hbox hg; have hcz66_0 : w65.cell? ⟨gb335, 0, none⟩ = some (.int .i64 a0_0) := (z13 BK335.out 0).trans rfl; have hcz66_1 : w65.cell? ⟨gb335, 1, none⟩ = some (.slice A0_1 l0_1.length c0_1) := (z13 BK335.out 1).trans rfl; have hcz66_2 : w65.cell? ⟨gb335, 2, none⟩ = some (.slice A0_2 l0_2.length c0_2) := (z13 BK335.out 2).trans rfl; have hfz66_0 := z14 BK335.out 0; have hfz66_1 := z14 BK335.out 1; have hfz66_2 := z14 BK335.out 2) | ((with_reducible refine z24 (f := 20) rfl ?_); refine goesL_ (some 8) rfl rfl Try.func20 (by kernel_rfl) rfl #[.agg #[.int .i64 a0_0, .slice A0_1 l0_1.length c0_1, .slice A0_2 l0_2.length c0_2]] rfl (by (try simp only [List.map_toArray, List.map_cons, List.map_nil]); first | done | rfl | (simp only [List.length_drop, List.length_take]; rfl)) ?_; (with_reducible refine (pl_Thin.calls a0_0 _ _ l0_1 _ _ l0_2 true _ ?side1 ?side2 ?side3 ?side4 A2.out).mono ?_); (case side1 => repeat (first | exact (Kd.C_below HR0_1.out HB.out) | (with_reducible refine Kd.C_alloc ?_ _) | (with_reducible refine Kd.C_drewN ?_ _) | (with_reducible refine Kd.C_drew ?_))); (case side2 => exact HC0_1.out); (case side3 => repeat (first | exact (Kd.C_below HR0_2.out HB.out) | (with_reducible refine Kd.C_alloc ?_ _) | (with_reducible refine Kd.C_drewN ?_ _) | (with_reducible refine Kd.C_drew ?_))); (case side4 => exact HC0_2.out); rintro e w67 ⟨rfl, hb⟩; refine ⟨_, rfl, ?_⟩; have n0_ := mkA (blk_below (g := gb335) (o := .cells #[.int .i64 a0_0, .slice A0_1 l0_1.length c0_1, .slice A0_2 l0_2.length c0_2] 25 (0, 0)) (by (with_reducible repeat (first | refine z16 ?_ _ | refine z22 ?_ | refine z19 ?_ _)); exact BK335.out) hb); have n1_ := mkA (z17 (by repeat (first | (with_reducible first | exact HB.out | apply z11 | apply z10 | apply z12 | refine z15 ?_ GE335.out) | exact HB.out)) hb); clear BK335; clear HB; have BK335 := n0_; have HB := n1_; clear n0_ n1_; (try clear hb); (try clear hb2); (try clear hk); (try clear hi); have hcz68_0 : w67.cell? ⟨gb335, 0, none⟩ = some (.int .i64 a0_0) := (z13 BK335.out 0).trans rfl; have hcz68_1 : w67.cell? ⟨gb335, 1, none⟩ = some (.slice A0_1 l0_1.length c0_1) := (z13 BK335.out 1).trans rfl; have hcz68_2 : w67.cell? ⟨gb335, 2, none⟩ = some (.slice A0_2 l0_2.length c0_2) := (z13 BK335.out 2).trans rfl; have hfz68_0 := z14 BK335.out 0; have hfz68_1 := z14 BK335.out 1; have hfz68_2 := z14 BK335.out 2) | ((with_reducible refine z24 (f := 23) rfl ?_); refine goesL_ (some 13) rfl rfl Try.func23 (by kernel_rfl) rfl #[.agg #[.int .i64 a0_0, .slice A0_1 l0_1.length c0_1, .slice A0_2 l0_2.length c0_2]] rfl (by (try simp only [List.map_toArray, List.map_cons, List.map_nil]); first | done | rfl | (simp only [List.length_drop, List.length_take]; rfl)) ?_; (with_reducible refine (pl_Slate.calls k a0_0 _ _ l0_1 _ _ l0_2 t338 t339 t342 _ ?side1 ?side2 ?side3 ?side4 A4.out).mono ?_); (case side1 => repeat (first | exact (Kd.C_below HR0_1.out HB.out) | (with_reducible refine Kd.C_alloc ?_ _) | (with_reducible refine Kd.C_drewN ?_ _) | (with_reducible refine Kd.C_drew ?_))); (case side2 => exact HC0_1.out); (case side3 => repeat (first | exact (Kd.C_below HR0_2.out HB.out) | (with_reducible refine Kd.C_alloc ?_ _) | (with_reducible refine Kd.C_drewN ?_ _) | (with_reducible refine Kd.C_drew ?_))); (case side4 => exact HC0_2.out); rintro e w69 ⟨v340, v343, rfl, ho0, ho1, hb⟩; refine ⟨_, rfl, ?_⟩; have n0_ := mkA (Kd.R_lower ho0 (z18 (by repeat (first | (with_reducible first | exact HB.out | apply z11 | apply z10 | apply z12 | refine z15 ?_ GE335.out) | exact HB.out)))); have n1_ := mkA (Kd.R_lower ho1 (z18 (by repeat (first | (with_reducible first | exact HB.out | apply z11 | apply z10 | apply z12 | refine z15 ?_ GE335.out) | exact HB.out)))); have n2_ := mkA (blk_below (g := gb335) (o := .cells #[.int .i64 a0_0, .slice A0_1 l0_1.length c0_1, .slice A0_2 l0_2.length c0_2] 25 (0, 0)) (by (with_reducible repeat (first | refine z16 ?_ _ | refine z22 ?_ | refine z19 ?_ _)); exact BK335.out) hb); have n3_ := mkA (z17 (by repeat (first | (with_reducible first | exact HB.out | apply z11 | apply z10 | apply z12 | refine z15 ?_ GE335.out) | exact HB.out)) hb); clear BK335; clear HB; have HO341 := n0_; have HO344 := n1_; have BK335 := n2_; have HB := n3_; clear n0_ n1_ n2_ n3_; (try clear hb); (try clear hb2); (try clear hk); (try clear hi); (try clear ho0); (try clear ho1); obtain ⟨Ao70, co70, eo70⟩ := Kd.R_slice HO341.out; subst eo70; obtain ⟨Ao71, co71, eo71⟩ := Kd.R_slice HO344.out; subst eo71) | ((with_reducible refine z24 (f := 37) rfl ?_); refine goesL_ (some 14) rfl rfl Try.func37 (by kernel_rfl) rfl #[.agg #[.int .i64 t338, .slice Ao70 t339.length co70, .slice Ao71 t342.length co71]] rfl (by (try simp only [List.map_toArray, List.map_cons, List.map_nil]); first | done | rfl | (simp only [List.length_drop, List.length_take]; rfl)) ?_; (with_reducible refine (soap_Fewest.calls t338 _ _ t339 _ _ t342 t345 t346 t347 _ ?side1 ?side2 ?side3 ?side4 A5.out).mono ?_); (case side1 => repeat (first | exact (Kd.R_reads' HO341.out).2.2 | (with_reducible refine Kd.C_alloc ?_ _) | (with_reducible refine Kd.C_drewN ?_ _) | (with_reducible refine Kd.C_drew ?_))); (case side2 => exact (Kd.R_reads' HO341.out).2.1); (case side3 => repeat (first | exact (Kd.R_reads' HO344.out).2.2 | (with_reducible refine Kd.C_alloc ?_ _) | (with_reducible refine Kd.C_drewN ?_ _) | (with_reducible refine Kd.C_drew ?_))); (case side4 => exact (Kd.R_reads' HO344.out).2.1); rintro e w72 ⟨rfl, hb⟩; refine ⟨_, rfl, ?_⟩; have n0_ := mkA (Kd.R_below (by (with_reducible repeat (first | apply Kd.R_alloc | apply Kd.R_drewN | apply Kd.R_drew)); exact HO341.out) hb); have n1_ := mkA (Kd.R_below (by (with_reducible repeat (first | apply Kd.R_alloc | apply Kd.R_drewN | apply Kd.R_drew)); exact HO344.out) hb); have n2_ := mkA (blk_below (g := gb335) (o := .cells #[.int .i64 a0_0, .slice A0_1 l0_1.length c0_1, .slice A0_2 l0_2.length c0_2] 25 (0, 0)) (by (with_reducible repeat (first | refine z16 ?_ _ | refine z22 ?_ | refine z19 ?_ _)); exact BK335.out) hb); have n3_ := mkA (z17 (by repeat (first | (with_reducible first | exact HB.out | apply z11 | apply z10 | apply z12 | refine z15 ?_ GE335.out) | exact HB.out)) hb); clear HO341; clear HO344; clear BK335; clear HB; have HO341 := n0_; have HO344 := n1_; have BK335 := n2_; have HB := n3_; clear n0_ n1_ n2_ n3_; (try clear hb); (try clear hb2); (try clear hk); (try clear hi)) | ((with_reducible refine z26 (N := 3) rfl ?_); refine z25 ?hg (N := 3) ?hd (cs := #[.int .i64 0, .int .i64 0]) (t := 44) ?hr ?_; (case hd => rfl); (case hg => rfl); (case hr => first | (go_simp; done) | (go_simp; rfl)); intro gb348 hg w73 hbox hb; have n0_ := mkA (Kd.R_below (by (with_reducible repeat (first | apply Kd.R_alloc | apply Kd.R_drewN | apply Kd.R_drew)); exact HO341.out) hb); have n1_ := mkA (Kd.R_below (by (with_reducible repeat (first | apply Kd.R_alloc | apply Kd.R_drewN | apply Kd.R_drew)); exact HO344.out) hb); have n2_ := mkA (blk_below (g := gb335) (o := .cells #[.int .i64 a0_0, .slice A0_1 l0_1.length c0_1, .slice A0_2 l0_2.length c0_2] 25 (0, 0)) (by (with_reducible repeat (first | refine z16 ?_ _ | refine z22 ?_ | refine z19 ?_ _)); exact BK335.out) hb); have n3_ := mkA (z17 (by repeat (first | (with_reducible first | exact HB.out | apply z11 | apply z10 | apply z12 | refine z15 ?_ GE335.out) | exact HB.out)) hb); have n4_ := mkA (hbox); have n5_ := mkA ((by rw [hg]; exact (z18 (by repeat (first | (with_reducible first | exact HB.out | apply z11 | apply z10 | apply z12 | refine z15 ?_ GE335.out) | exact HB.out))) : w.heap.size ≤ gb348)); have n6_ := mkA ((by rw [hg]; exact (z18 (by repeat (first | (with_reducible first | exact HB.out | apply z11 | apply z10 | apply z12 | refine z15 ?_ GE335.out) | exact HB.out))) : w.heap.size ≤ gb348)); have n7_ := mkA ((by rw [hg]; exact Nat.ne_of_lt (blk_lt (g := gb335) (o := .cells #[.int .i64 a0_0, .slice A0_1 l0_1.length c0_1, .slice A0_2 l0_2.length c0_2] 25 (0, 0)) (by (with_reducible repeat (first | refine z16 ?_ _ | refine z22 ?_ | refine z19 ?_ _)); exact BK335.out)) : gb335 ≠ gb348)); have n8_ := mkA ((by rw [hg]; exact Nat.ne_of_gt (blk_lt (g := gb335) (o := .cells #[.int .i64 a0_0, .slice A0_1 l0_1.length c0_1, .slice A0_2 l0_2.length c0_2] 25 (0, 0)) (by (with_reducible repeat (first | refine z16 ?_ _ | refine z22 ?_ | refine z19 ?_ _)); exact BK335.out)) : gb348 ≠ gb335)); clear HO341; clear HO344; clear BK335; clear HB; have HO341 := n0_; have HO344 := n1_; have BK335 := n2_; have HB := n3_; have BK348 := n4_; have GW348 := n5_; have GE348 := n6_; have NB335_348 := n7_; have NB348_335 := n8_; clear n0_ n1_ n2_ n3_ n4_ n5_ n6_ n7_ n8_; clear hb hbox hg; have hnb74 := NB348_335.out; have hnc74 := NB335_348.out; have hcz75_0 : w73.cell? ⟨gb348, 0, none⟩ = some (.int .i64 0) := (z13 BK348.out 0).trans rfl; have hcz75_1 : w73.cell? ⟨gb348, 1, none⟩ = some (.int .i64 0) := (z13 BK348.out 1).trans rfl; have hfz75_0 := z14 BK348.out 0; have hfz75_1 := z14 BK348.out 1; have hcz76_0 : w73.cell? ⟨gb335, 0, none⟩ = some (.int .i64 a0_0) := (z13 BK335.out 0).trans rfl; have hcz76_1 : w73.cell? ⟨gb335, 1, none⟩ = some (.slice A0_1 l0_1.length c0_1) := (z13 BK335.out 1).trans rfl; have hcz76_2 : w73.cell? ⟨gb335, 2, none⟩ = some (.slice A0_2 l0_2.length c0_2) := (z13 BK335.out 2).trans rfl; have hfz76_0 := z14 BK335.out 0; have hfz76_1 := z14 BK335.out 1; have hfz76_2 := z14 BK335.out 2) | ((with_reducible refine z24 (f := 25) rfl ?_); refine goesL_ (some 19) rfl rfl Try.func25 (by kernel_rfl) rfl #[.agg #[.int .i64 a0_0, .slice A0_1 l0_1.length c0_1, .slice A0_2 l0_2.length c0_2]] rfl (by (try simp only [List.map_toArray, List.map_cons, List.map_nil]); first | done | rfl | (simp only [List.length_drop, List.length_take]; rfl)) ?_; (with_reducible refine (pl_sure.calls k a0_0 _ _ l0_1 _ _ l0_2 t349 t352 _ ?side1 ?side2 ?side3 ?side4 A6.out).mono ?_); (case side1 => exact Kd.C_below HR0_1.out (by repeat (first | (with_reducible first | exact HB.out | apply z11 | apply z10 | apply z12 | refine z15 ?_ GE335.out | refine z15 ?_ GE348.out) | exact HB.out))); (case side2 => exact HC0_1.out); (case side3 => exact Kd.C_below HR0_2.out (by repeat (first | (with_reducible first | exact HB.out | apply z11 | apply z10 | apply z12 | refine z15 ?_ GE335.out | refine z15 ?_ GE348.out) | exact HB.out))); (case side4 => exact HC0_2.out); rintro e w77 ⟨v350, rfl, ho0, hb⟩; refine ⟨_, rfl, ?_⟩; have n0_ := mkA (Kd.R_below (by (with_reducible repeat (first | apply Kd.R_alloc | apply Kd.R_drewN | apply Kd.R_drew)); exact (Kd.R_mono (Kd.R_far (p := ⟨gb348, 1, none⟩) (Kd.R_far (p := ⟨gb348, 0, none⟩) (Kd.R_types HO341.out BK348.out (by decide)) (fun _ hk => hk.2) (.int .i64 t345)) (fun _ hk => hk.2) (.int .i64 t346)) (fun _ h_ => h_.1))) hb); have n1_ := mkA (Kd.R_below (by (with_reducible repeat (first | apply Kd.R_alloc | apply Kd.R_drewN | apply Kd.R_drew)); exact (Kd.R_mono (Kd.R_far (p := ⟨gb348, 1, none⟩) (Kd.R_far (p := ⟨gb348, 0, none⟩) (Kd.R_types HO344.out BK348.out (by decide)) (fun _ hk => hk.2) (.int .i64 t345)) (fun _ hk => hk.2) (.int .i64 t346)) (fun _ h_ => h_.1))) hb); have n2_ := mkA (Kd.S_lower ho0 (z18 (by repeat (first | (with_reducible first | exact HB.out | apply z11 | apply z10 | apply z12 | refine z15 ?_ GE335.out | refine z15 ?_ GE348.out) | exact HB.out)))); have n3_ := mkA (blk_below (g := gb335) (o := .cells #[.int .i64 a0_0, .slice A0_1 l0_1.length c0_1, .slice A0_2 l0_2.length c0_2] 25 (0, 0)) (by (with_reducible repeat (first | refine z16 ?_ _ | refine z22 ?_ | refine z19 ?_ _)); refine blk_far ?_ NB335_348.out _; (with_reducible repeat (first | refine z16 ?_ _ | refine z22 ?_ | refine z19 ?_ _)); refine blk_far ?_ NB335_348.out _; (with_reducible repeat (first | refine z16 ?_ _ | refine z22 ?_ | refine z19 ?_ _)); exact BK335.out) hb); have n4_ := mkA (blk_below (g := gb348) (o := .cells #[.int .i64 t345, .int .i64 t346] 44 (0, 0)) (by (with_reducible repeat (first | refine z16 ?_ _ | refine z22 ?_ | refine z19 ?_ _)); refine blk_put (cs := #[.int .i64 t345, .int .i64 0]) ?_ 1 _ rfl; (with_reducible repeat (first | refine z16 ?_ _ | refine z22 ?_ | refine z19 ?_ _)); refine blk_put (cs := #[.int .i64 0, .int .i64 0]) ?_ 0 _ rfl; (with_reducible repeat (first | refine z16 ?_ _ | refine z22 ?_ | refine z19 ?_ _)); exact BK348.out) hb); have n5_ := mkA (z17 (by repeat (first | (with_reducible first | exact HB.out | apply z11 | apply z10 | apply z12 | refine z15 ?_ GE335.out | refine z15 ?_ GE348.out) | exact HB.out)) hb); clear HO341; clear HO344; clear BK335; clear BK348; clear HB; have HO341 := n0_; have HO344 := n1_; have HO351 := n2_; have BK335 := n3_; have BK348 := n4_; have HB := n5_; clear n0_ n1_ n2_ n3_ n4_ n5_; (try clear hb); (try clear hb2); (try clear hk); (try clear hi); (try clear ho0); have hcz78_0 : w77.cell? ⟨gb348, 0, none⟩ = some (.int .i64 t345) := (z13 BK348.out 0).trans rfl; have hcz78_1 : w77.cell? ⟨gb348, 1, none⟩ = some (.int .i64 t346) := (z13 BK348.out 1).trans rfl; have hfz78_0 := z14 BK348.out 0; have hfz78_1 := z14 BK348.out 1) | (go_at_call 21; (with_reducible refine (pl_awake.calls  t358 _ A64.out).mono ?_); rintro e w79 ⟨rfl, hb⟩; have n0_ := mkA (Kd.R_below (by (with_reducible repeat (first | apply Kd.R_alloc | apply Kd.R_drewN | apply Kd.R_drew)); exact HO341.out) hb); have n1_ := mkA (Kd.R_below (by (with_reducible repeat (first | apply Kd.R_alloc | apply Kd.R_drewN | apply Kd.R_drew)); exact HO344.out) hb); have n2_ := mkA (Kd.S_below (by (with_reducible repeat (first | apply Kd.S_alloc | apply Kd.S_drewN | apply Kd.S_drew)); exact HO351.out) hb); have n3_ := mkA (blk_below (g := gb335) (o := .cells #[.int .i64 a0_0, .slice A0_1 l0_1.length c0_1, .slice A0_2 l0_2.length c0_2] 25 (0, 0)) (by (with_reducible repeat (first | refine z16 ?_ _ | refine z22 ?_ | refine z19 ?_ _)); exact BK335.out) hb); have n4_ := mkA (blk_below (g := gb348) (o := .cells #[.int .i64 t345, .int .i64 t346] 44 (0, 0)) (by (with_reducible repeat (first | refine z16 ?_ _ | refine z22 ?_ | refine z19 ?_ _)); exact BK348.out) hb); have n5_ := mkA (z17 (by repeat (first | (with_reducible first | exact HB.out | apply z11 | apply z10 | apply z12 | refine z15 ?_ GE335.out | refine z15 ?_ GE348.out) | exact HB.out)) hb); clear HO341; clear HO344; clear HO351; clear BK335; clear BK348; clear HB; have HO341 := n0_; have HO344 := n1_; have HO351 := n2_; have BK335 := n3_; have BK348 := n4_; have HB := n5_; clear n0_ n1_ n2_ n3_ n4_ n5_; (try clear hb); (try clear hb2); (try clear hk); (try clear hi)))
     go_ret
     exact ⟨by first | rfl | (simp [z21, z20] <;> rfl) | (simp [*, z21, z20] <;> rfl), by repeat (first | (with_reducible first | exact HB.out | apply z11 | apply z10 | apply z12 | refine z15 ?_ GE335.out | refine z15 ?_ GE348.out) | exact HB.out)⟩
    ·rw [if_neg c63] at H
     have c63b0 : (t345 == 0 && (t346 == 0)) = false := by simpa using c63
     (try (have c63b1 : decide (t345 = 0 && (t346 == 0)) = false := by simpa using c63))
     (try (have c63b2 : (t345 == 0 && (t346 == 0)) = false := by simpa using c63))
     (try (have c63b3 : ¬ (t345 = 0 && (t346 == 0)) := by simpa using c63))
     clear c63
     obtain rfl := Option.some.inj H
     go_enter Try.func5, Try.ntmps5
     go_wp2_with (first | ((with_reducible refine z26 (N := 1) rfl ?_); refine z25 ?hg (N := 1) ?hd (cs := #[.int .i64 a0_0, .slice A0_1 l0_1.length c0_1, .slice A0_2 l0_2.length c0_2]) (t := 25) ?hr ?_; (case hd => rfl); (case hg => rfl); (case hr => first | (go_simp; done) | (go_simp; rfl)); intro gb335 hg w80 hbox hb; have n0_ := mkA (z17 (by repeat (first | (with_reducible first | exact HB.out | apply z11 | apply z10 | apply z12) | exact HB.out)) hb); have n1_ := mkA (hbox); have n2_ := mkA ((by rw [hg]; exact (z18 (by repeat (first | (with_reducible first | exact HB.out | apply z11 | apply z10 | apply z12) | exact HB.out))) : w.heap.size ≤ gb335)); have n3_ := mkA ((by rw [hg]; exact (z18 (by repeat (first | (with_reducible first | exact HB.out | apply z11 | apply z10 | apply z12) | exact HB.out))) : w.heap.size ≤ gb335)); clear HB; have HB := n0_; have BK335 := n1_; have GW335 := n2_; have GE335 := n3_; clear n0_ n1_ n2_ n3_; clear hb hbox hg; have hcz81_0 : w80.cell? ⟨gb335, 0, none⟩ = some (.int .i64 a0_0) := (z13 BK335.out 0).trans rfl; have hcz81_1 : w80.cell? ⟨gb335, 1, none⟩ = some (.slice A0_1 l0_1.length c0_1) := (z13 BK335.out 1).trans rfl; have hcz81_2 : w80.cell? ⟨gb335, 2, none⟩ = some (.slice A0_2 l0_2.length c0_2) := (z13 BK335.out 2).trans rfl; have hfz81_0 := z14 BK335.out 0; have hfz81_1 := z14 BK335.out 1; have hfz81_2 := z14 BK335.out 2) | ((with_reducible refine z24 (f := 20) rfl ?_); refine goesL_ (some 8) rfl rfl Try.func20 (by kernel_rfl) rfl #[.agg #[.int .i64 a0_0, .slice A0_1 l0_1.length c0_1, .slice A0_2 l0_2.length c0_2]] rfl (by (try simp only [List.map_toArray, List.map_cons, List.map_nil]); first | done | rfl | (simp only [List.length_drop, List.length_take]; rfl)) ?_; (with_reducible refine (pl_Thin.calls a0_0 _ _ l0_1 _ _ l0_2 true _ ?side1 ?side2 ?side3 ?side4 A2.out).mono ?_); (case side1 => repeat (first | exact (Kd.C_below HR0_1.out HB.out) | (with_reducible refine Kd.C_alloc ?_ _) | (with_reducible refine Kd.C_drewN ?_ _) | (with_reducible refine Kd.C_drew ?_))); (case side2 => exact HC0_1.out); (case side3 => repeat (first | exact (Kd.C_below HR0_2.out HB.out) | (with_reducible refine Kd.C_alloc ?_ _) | (with_reducible refine Kd.C_drewN ?_ _) | (with_reducible refine Kd.C_drew ?_))); (case side4 => exact HC0_2.out); rintro e w82 ⟨rfl, hb⟩; refine ⟨_, rfl, ?_⟩; have n0_ := mkA (blk_below (g := gb335) (o := .cells #[.int .i64 a0_0, .slice A0_1 l0_1.length c0_1, .slice A0_2 l0_2.length c0_2] 25 (0, 0)) (by (with_reducible repeat (first | refine z16 ?_ _ | refine z22 ?_ | refine z19 ?_ _)); exact BK335.out) hb); have n1_ := mkA (z17 (by repeat (first | (with_reducible first | exact HB.out | apply z11 | apply z10 | apply z12 | refine z15 ?_ GE335.out) | exact HB.out)) hb); clear BK335; clear HB; have BK335 := n0_; have HB := n1_; clear n0_ n1_; (try clear hb); (try clear hb2); (try clear hk); (try clear hi); have hcz83_0 : w82.cell? ⟨gb335, 0, none⟩ = some (.int .i64 a0_0) := (z13 BK335.out 0).trans rfl; have hcz83_1 : w82.cell? ⟨gb335, 1, none⟩ = some (.slice A0_1 l0_1.length c0_1) := (z13 BK335.out 1).trans rfl; have hcz83_2 : w82.cell? ⟨gb335, 2, none⟩ = some (.slice A0_2 l0_2.length c0_2) := (z13 BK335.out 2).trans rfl; have hfz83_0 := z14 BK335.out 0; have hfz83_1 := z14 BK335.out 1; have hfz83_2 := z14 BK335.out 2) | ((with_reducible refine z24 (f := 23) rfl ?_); refine goesL_ (some 13) rfl rfl Try.func23 (by kernel_rfl) rfl #[.agg #[.int .i64 a0_0, .slice A0_1 l0_1.length c0_1, .slice A0_2 l0_2.length c0_2]] rfl (by (try simp only [List.map_toArray, List.map_cons, List.map_nil]); first | done | rfl | (simp only [List.length_drop, List.length_take]; rfl)) ?_; (with_reducible refine (pl_Slate.calls k a0_0 _ _ l0_1 _ _ l0_2 t338 t339 t342 _ ?side1 ?side2 ?side3 ?side4 A4.out).mono ?_); (case side1 => repeat (first | exact (Kd.C_below HR0_1.out HB.out) | (with_reducible refine Kd.C_alloc ?_ _) | (with_reducible refine Kd.C_drewN ?_ _) | (with_reducible refine Kd.C_drew ?_))); (case side2 => exact HC0_1.out); (case side3 => repeat (first | exact (Kd.C_below HR0_2.out HB.out) | (with_reducible refine Kd.C_alloc ?_ _) | (with_reducible refine Kd.C_drewN ?_ _) | (with_reducible refine Kd.C_drew ?_))); (case side4 => exact HC0_2.out); rintro e w84 ⟨v340, v343, rfl, ho0, ho1, hb⟩; refine ⟨_, rfl, ?_⟩; have n0_ := mkA (Kd.R_lower ho0 (z18 (by repeat (first | (with_reducible first | exact HB.out | apply z11 | apply z10 | apply z12 | refine z15 ?_ GE335.out) | exact HB.out)))); have n1_ := mkA (Kd.R_lower ho1 (z18 (by repeat (first | (with_reducible first | exact HB.out | apply z11 | apply z10 | apply z12 | refine z15 ?_ GE335.out) | exact HB.out)))); have n2_ := mkA (blk_below (g := gb335) (o := .cells #[.int .i64 a0_0, .slice A0_1 l0_1.length c0_1, .slice A0_2 l0_2.length c0_2] 25 (0, 0)) (by (with_reducible repeat (first | refine z16 ?_ _ | refine z22 ?_ | refine z19 ?_ _)); exact BK335.out) hb); have n3_ := mkA (z17 (by repeat (first | (with_reducible first | exact HB.out | apply z11 | apply z10 | apply z12 | refine z15 ?_ GE335.out) | exact HB.out)) hb); clear BK335; clear HB; have HO341 := n0_; have HO344 := n1_; have BK335 := n2_; have HB := n3_; clear n0_ n1_ n2_ n3_; (try clear hb); (try clear hb2); (try clear hk); (try clear hi); (try clear ho0); (try clear ho1); obtain ⟨Ao85, co85, eo85⟩ := Kd.R_slice HO341.out; subst eo85; obtain ⟨Ao86, co86, eo86⟩ := Kd.R_slice HO344.out; subst eo86) | ((with_reducible refine z24 (f := 37) rfl ?_); refine goesL_ (some 14) rfl rfl Try.func37 (by kernel_rfl) rfl #[.agg #[.int .i64 t338, .slice Ao85 t339.length co85, .slice Ao86 t342.length co86]] rfl (by (try simp only [List.map_toArray, List.map_cons, List.map_nil]); first | done | rfl | (simp only [List.length_drop, List.length_take]; rfl)) ?_; (with_reducible refine (soap_Fewest.calls t338 _ _ t339 _ _ t342 t345 t346 t347 _ ?side1 ?side2 ?side3 ?side4 A5.out).mono ?_); (case side1 => repeat (first | exact (Kd.R_reads' HO341.out).2.2 | (with_reducible refine Kd.C_alloc ?_ _) | (with_reducible refine Kd.C_drewN ?_ _) | (with_reducible refine Kd.C_drew ?_))); (case side2 => exact (Kd.R_reads' HO341.out).2.1); (case side3 => repeat (first | exact (Kd.R_reads' HO344.out).2.2 | (with_reducible refine Kd.C_alloc ?_ _) | (with_reducible refine Kd.C_drewN ?_ _) | (with_reducible refine Kd.C_drew ?_))); (case side4 => exact (Kd.R_reads' HO344.out).2.1); rintro e w87 ⟨rfl, hb⟩; refine ⟨_, rfl, ?_⟩; have n0_ := mkA (Kd.R_below (by (with_reducible repeat (first | apply Kd.R_alloc | apply Kd.R_drewN | apply Kd.R_drew)); exact HO341.out) hb); have n1_ := mkA (Kd.R_below (by (with_reducible repeat (first | apply Kd.R_alloc | apply Kd.R_drewN | apply Kd.R_drew)); exact HO344.out) hb); have n2_ := mkA (blk_below (g := gb335) (o := .cells #[.int .i64 a0_0, .slice A0_1 l0_1.length c0_1, .slice A0_2 l0_2.length c0_2] 25 (0, 0)) (by (with_reducible repeat (first | refine z16 ?_ _ | refine z22 ?_ | refine z19 ?_ _)); exact BK335.out) hb); have n3_ := mkA (z17 (by repeat (first | (with_reducible first | exact HB.out | apply z11 | apply z10 | apply z12 | refine z15 ?_ GE335.out) | exact HB.out)) hb); clear HO341; clear HO344; clear BK335; clear HB; have HO341 := n0_; have HO344 := n1_; have BK335 := n2_; have HB := n3_; clear n0_ n1_ n2_ n3_; (try clear hb); (try clear hb2); (try clear hk); (try clear hi)) | ((with_reducible refine z26 (N := 3) rfl ?_); refine z25 ?hg (N := 3) ?hd (cs := #[.int .i64 0, .int .i64 0]) (t := 44) ?hr ?_; (case hd => rfl); (case hg => rfl); (case hr => first | (go_simp; done) | (go_simp; rfl)); intro gb348 hg w88 hbox hb; have n0_ := mkA (Kd.R_below (by (with_reducible repeat (first | apply Kd.R_alloc | apply Kd.R_drewN | apply Kd.R_drew)); exact HO341.out) hb); have n1_ := mkA (Kd.R_below (by (with_reducible repeat (first | apply Kd.R_alloc | apply Kd.R_drewN | apply Kd.R_drew)); exact HO344.out) hb); have n2_ := mkA (blk_below (g := gb335) (o := .cells #[.int .i64 a0_0, .slice A0_1 l0_1.length c0_1, .slice A0_2 l0_2.length c0_2] 25 (0, 0)) (by (with_reducible repeat (first | refine z16 ?_ _ | refine z22 ?_ | refine z19 ?_ _)); exact BK335.out) hb); have n3_ := mkA (z17 (by repeat (first | (with_reducible first | exact HB.out | apply z11 | apply z10 | apply z12 | refine z15 ?_ GE335.out) | exact HB.out)) hb); have n4_ := mkA (hbox); have n5_ := mkA ((by rw [hg]; exact (z18 (by repeat (first | (with_reducible first | exact HB.out | apply z11 | apply z10 | apply z12 | refine z15 ?_ GE335.out) | exact HB.out))) : w.heap.size ≤ gb348)); have n6_ := mkA ((by rw [hg]; exact (z18 (by repeat (first | (with_reducible first | exact HB.out | apply z11 | apply z10 | apply z12 | refine z15 ?_ GE335.out) | exact HB.out))) : w.heap.size ≤ gb348)); have n7_ := mkA ((by rw [hg]; exact Nat.ne_of_lt (blk_lt (g := gb335) (o := .cells #[.int .i64 a0_0, .slice A0_1 l0_1.length c0_1, .slice A0_2 l0_2.length c0_2] 25 (0, 0)) (by (with_reducible repeat (first | refine z16 ?_ _ | refine z22 ?_ | refine z19 ?_ _)); exact BK335.out)) : gb335 ≠ gb348)); have n8_ := mkA ((by rw [hg]; exact Nat.ne_of_gt (blk_lt (g := gb335) (o := .cells #[.int .i64 a0_0, .slice A0_1 l0_1.length c0_1, .slice A0_2 l0_2.length c0_2] 25 (0, 0)) (by (with_reducible repeat (first | refine z16 ?_ _ | refine z22 ?_ | refine z19 ?_ _)); exact BK335.out)) : gb348 ≠ gb335)); clear HO341; clear HO344; clear BK335; clear HB; have HO341 := n0_; have HO344 := n1_; have BK335 := n2_; have HB := n3_; have BK348 := n4_; have GW348 := n5_; have GE348 := n6_; have NB335_348 := n7_; have NB348_335 := n8_; clear n0_ n1_ n2_ n3_ n4_ n5_ n6_ n7_ n8_; clear hb hbox hg; have hnb89 := NB348_335.out; have hnc89 := NB335_348.out; have hcz90_0 : w88.cell? ⟨gb348, 0, none⟩ = some (.int .i64 0) := (z13 BK348.out 0).trans rfl; have hcz90_1 : w88.cell? ⟨gb348, 1, none⟩ = some (.int .i64 0) := (z13 BK348.out 1).trans rfl; have hfz90_0 := z14 BK348.out 0; have hfz90_1 := z14 BK348.out 1; have hcz91_0 : w88.cell? ⟨gb335, 0, none⟩ = some (.int .i64 a0_0) := (z13 BK335.out 0).trans rfl; have hcz91_1 : w88.cell? ⟨gb335, 1, none⟩ = some (.slice A0_1 l0_1.length c0_1) := (z13 BK335.out 1).trans rfl; have hcz91_2 : w88.cell? ⟨gb335, 2, none⟩ = some (.slice A0_2 l0_2.length c0_2) := (z13 BK335.out 2).trans rfl; have hfz91_0 := z14 BK335.out 0; have hfz91_1 := z14 BK335.out 1; have hfz91_2 := z14 BK335.out 2) | ((with_reducible refine z24 (f := 25) rfl ?_); refine goesL_ (some 19) rfl rfl Try.func25 (by kernel_rfl) rfl #[.agg #[.int .i64 a0_0, .slice A0_1 l0_1.length c0_1, .slice A0_2 l0_2.length c0_2]] rfl (by (try simp only [List.map_toArray, List.map_cons, List.map_nil]); first | done | rfl | (simp only [List.length_drop, List.length_take]; rfl)) ?_; (with_reducible refine (pl_sure.calls k a0_0 _ _ l0_1 _ _ l0_2 t349 t352 _ ?side1 ?side2 ?side3 ?side4 A6.out).mono ?_); (case side1 => exact Kd.C_below HR0_1.out (by repeat (first | (with_reducible first | exact HB.out | apply z11 | apply z10 | apply z12 | refine z15 ?_ GE335.out | refine z15 ?_ GE348.out) | exact HB.out))); (case side2 => exact HC0_1.out); (case side3 => exact Kd.C_below HR0_2.out (by repeat (first | (with_reducible first | exact HB.out | apply z11 | apply z10 | apply z12 | refine z15 ?_ GE335.out | refine z15 ?_ GE348.out) | exact HB.out))); (case side4 => exact HC0_2.out); rintro e w92 ⟨v350, rfl, ho0, hb⟩; refine ⟨_, rfl, ?_⟩; have n0_ := mkA (Kd.R_below (by (with_reducible repeat (first | apply Kd.R_alloc | apply Kd.R_drewN | apply Kd.R_drew)); exact (Kd.R_mono (Kd.R_far (p := ⟨gb348, 1, none⟩) (Kd.R_far (p := ⟨gb348, 0, none⟩) (Kd.R_types HO341.out BK348.out (by decide)) (fun _ hk => hk.2) (.int .i64 t345)) (fun _ hk => hk.2) (.int .i64 t346)) (fun _ h_ => h_.1))) hb); have n1_ := mkA (Kd.R_below (by (with_reducible repeat (first | apply Kd.R_alloc | apply Kd.R_drewN | apply Kd.R_drew)); exact (Kd.R_mono (Kd.R_far (p := ⟨gb348, 1, none⟩) (Kd.R_far (p := ⟨gb348, 0, none⟩) (Kd.R_types HO344.out BK348.out (by decide)) (fun _ hk => hk.2) (.int .i64 t345)) (fun _ hk => hk.2) (.int .i64 t346)) (fun _ h_ => h_.1))) hb); have n2_ := mkA (Kd.S_lower ho0 (z18 (by repeat (first | (with_reducible first | exact HB.out | apply z11 | apply z10 | apply z12 | refine z15 ?_ GE335.out | refine z15 ?_ GE348.out) | exact HB.out)))); have n3_ := mkA (blk_below (g := gb335) (o := .cells #[.int .i64 a0_0, .slice A0_1 l0_1.length c0_1, .slice A0_2 l0_2.length c0_2] 25 (0, 0)) (by (with_reducible repeat (first | refine z16 ?_ _ | refine z22 ?_ | refine z19 ?_ _)); refine blk_far ?_ NB335_348.out _; (with_reducible repeat (first | refine z16 ?_ _ | refine z22 ?_ | refine z19 ?_ _)); refine blk_far ?_ NB335_348.out _; (with_reducible repeat (first | refine z16 ?_ _ | refine z22 ?_ | refine z19 ?_ _)); exact BK335.out) hb); have n4_ := mkA (blk_below (g := gb348) (o := .cells #[.int .i64 t345, .int .i64 t346] 44 (0, 0)) (by (with_reducible repeat (first | refine z16 ?_ _ | refine z22 ?_ | refine z19 ?_ _)); refine blk_put (cs := #[.int .i64 t345, .int .i64 0]) ?_ 1 _ rfl; (with_reducible repeat (first | refine z16 ?_ _ | refine z22 ?_ | refine z19 ?_ _)); refine blk_put (cs := #[.int .i64 0, .int .i64 0]) ?_ 0 _ rfl; (with_reducible repeat (first | refine z16 ?_ _ | refine z22 ?_ | refine z19 ?_ _)); exact BK348.out) hb); have n5_ := mkA (z17 (by repeat (first | (with_reducible first | exact HB.out | apply z11 | apply z10 | apply z12 | refine z15 ?_ GE335.out | refine z15 ?_ GE348.out) | exact HB.out)) hb); clear HO341; clear HO344; clear BK335; clear BK348; clear HB; have HO341 := n0_; have HO344 := n1_; have HO351 := n2_; have BK335 := n3_; have BK348 := n4_; have HB := n5_; clear n0_ n1_ n2_ n3_ n4_ n5_; (try clear hb); (try clear hb2); (try clear hk); (try clear hi); (try clear ho0); have hcz93_0 : w92.cell? ⟨gb348, 0, none⟩ = some (.int .i64 t345) := (z13 BK348.out 0).trans rfl; have hcz93_1 : w92.cell? ⟨gb348, 1, none⟩ = some (.int .i64 t346) := (z13 BK348.out 1).trans rfl; have hfz93_0 := z14 BK348.out 0; have hfz93_1 := z14 BK348.out 1))
     go_ret
     exact ⟨by first | rfl | (simp [z21, z20] <;> rfl) | (simp [*, z21, z20] <;> rfl), by repeat (first | (with_reducible first | exact HB.out | apply z11 | apply z10 | apply z12 | refine z15 ?_ GE335.out | refine z15 ?_ GE348.out) | exact HB.out)⟩
   ·rw [if_neg c62] at H
    have c62b0 : (t347 == t352) = false := beq_eq_false_iff_ne.mpr c62
    have c62b1 : (t347 != t352) = true := bne_iff_ne.mpr c62
    obtain rfl := Option.some.inj H
    go_enter Try.func5, Try.ntmps5
    go_wp2_with (first | ((with_reducible refine z26 (N := 1) rfl ?_); refine z25 ?hg (N := 1) ?hd (cs := #[.int .i64 a0_0, .slice A0_1 l0_1.length c0_1, .slice A0_2 l0_2.length c0_2]) (t := 25) ?hr ?_; (case hd => rfl); (case hg => rfl); (case hr => first | (go_simp; done) | (go_simp; rfl)); intro gb335 hg w94 hbox hb; have n0_ := mkA (z17 (by repeat (first | (with_reducible first | exact HB.out | apply z11 | apply z10 | apply z12) | exact HB.out)) hb); have n1_ := mkA (hbox); have n2_ := mkA ((by rw [hg]; exact (z18 (by repeat (first | (with_reducible first | exact HB.out | apply z11 | apply z10 | apply z12) | exact HB.out))) : w.heap.size ≤ gb335)); have n3_ := mkA ((by rw [hg]; exact (z18 (by repeat (first | (with_reducible first | exact HB.out | apply z11 | apply z10 | apply z12) | exact HB.out))) : w.heap.size ≤ gb335)); clear HB; have HB := n0_; have BK335 := n1_; have GW335 := n2_; have GE335 := n3_; clear n0_ n1_ n2_ n3_; clear hb hbox hg; have hcz95_0 : w94.cell? ⟨gb335, 0, none⟩ = some (.int .i64 a0_0) := (z13 BK335.out 0).trans rfl; have hcz95_1 : w94.cell? ⟨gb335, 1, none⟩ = some (.slice A0_1 l0_1.length c0_1) := (z13 BK335.out 1).trans rfl; have hcz95_2 : w94.cell? ⟨gb335, 2, none⟩ = some (.slice A0_2 l0_2.length c0_2) := (z13 BK335.out 2).trans rfl; have hfz95_0 := z14 BK335.out 0; have hfz95_1 := z14 BK335.out 1; have hfz95_2 := z14 BK335.out 2) | ((with_reducible refine z24 (f := 20) rfl ?_); refine goesL_ (some 8) rfl rfl Try.func20 (by kernel_rfl) rfl #[.agg #[.int .i64 a0_0, .slice A0_1 l0_1.length c0_1, .slice A0_2 l0_2.length c0_2]] rfl (by (try simp only [List.map_toArray, List.map_cons, List.map_nil]); first | done | rfl | (simp only [List.length_drop, List.length_take]; rfl)) ?_; (with_reducible refine (pl_Thin.calls a0_0 _ _ l0_1 _ _ l0_2 true _ ?side1 ?side2 ?side3 ?side4 A2.out).mono ?_); (case side1 => repeat (first | exact (Kd.C_below HR0_1.out HB.out) | (with_reducible refine Kd.C_alloc ?_ _) | (with_reducible refine Kd.C_drewN ?_ _) | (with_reducible refine Kd.C_drew ?_))); (case side2 => exact HC0_1.out); (case side3 => repeat (first | exact (Kd.C_below HR0_2.out HB.out) | (with_reducible refine Kd.C_alloc ?_ _) | (with_reducible refine Kd.C_drewN ?_ _) | (with_reducible refine Kd.C_drew ?_))); (case side4 => exact HC0_2.out); rintro e w96 ⟨rfl, hb⟩; refine ⟨_, rfl, ?_⟩; have n0_ := mkA (blk_below (g := gb335) (o := .cells #[.int .i64 a0_0, .slice A0_1 l0_1.length c0_1, .slice A0_2 l0_2.length c0_2] 25 (0, 0)) (by (with_reducible repeat (first | refine z16 ?_ _ | refine z22 ?_ | refine z19 ?_ _)); exact BK335.out) hb); have n1_ := mkA (z17 (by repeat (first | (with_reducible first | exact HB.out | apply z11 | apply z10 | apply z12 | refine z15 ?_ GE335.out) | exact HB.out)) hb); clear BK335; clear HB; have BK335 := n0_; have HB := n1_; clear n0_ n1_; (try clear hb); (try clear hb2); (try clear hk); (try clear hi); have hcz97_0 : w96.cell? ⟨gb335, 0, none⟩ = some (.int .i64 a0_0) := (z13 BK335.out 0).trans rfl; have hcz97_1 : w96.cell? ⟨gb335, 1, none⟩ = some (.slice A0_1 l0_1.length c0_1) := (z13 BK335.out 1).trans rfl; have hcz97_2 : w96.cell? ⟨gb335, 2, none⟩ = some (.slice A0_2 l0_2.length c0_2) := (z13 BK335.out 2).trans rfl; have hfz97_0 := z14 BK335.out 0; have hfz97_1 := z14 BK335.out 1; have hfz97_2 := z14 BK335.out 2) | ((with_reducible refine z24 (f := 23) rfl ?_); refine goesL_ (some 13) rfl rfl Try.func23 (by kernel_rfl) rfl #[.agg #[.int .i64 a0_0, .slice A0_1 l0_1.length c0_1, .slice A0_2 l0_2.length c0_2]] rfl (by (try simp only [List.map_toArray, List.map_cons, List.map_nil]); first | done | rfl | (simp only [List.length_drop, List.length_take]; rfl)) ?_; (with_reducible refine (pl_Slate.calls k a0_0 _ _ l0_1 _ _ l0_2 t338 t339 t342 _ ?side1 ?side2 ?side3 ?side4 A4.out).mono ?_); (case side1 => repeat (first | exact (Kd.C_below HR0_1.out HB.out) | (with_reducible refine Kd.C_alloc ?_ _) | (with_reducible refine Kd.C_drewN ?_ _) | (with_reducible refine Kd.C_drew ?_))); (case side2 => exact HC0_1.out); (case side3 => repeat (first | exact (Kd.C_below HR0_2.out HB.out) | (with_reducible refine Kd.C_alloc ?_ _) | (with_reducible refine Kd.C_drewN ?_ _) | (with_reducible refine Kd.C_drew ?_))); (case side4 => exact HC0_2.out); rintro e w98 ⟨v340, v343, rfl, ho0, ho1, hb⟩; refine ⟨_, rfl, ?_⟩; have n0_ := mkA (Kd.R_lower ho0 (z18 (by repeat (first | (with_reducible first | exact HB.out | apply z11 | apply z10 | apply z12 | refine z15 ?_ GE335.out) | exact HB.out)))); have n1_ := mkA (Kd.R_lower ho1 (z18 (by repeat (first | (with_reducible first | exact HB.out | apply z11 | apply z10 | apply z12 | refine z15 ?_ GE335.out) | exact HB.out)))); have n2_ := mkA (blk_below (g := gb335) (o := .cells #[.int .i64 a0_0, .slice A0_1 l0_1.length c0_1, .slice A0_2 l0_2.length c0_2] 25 (0, 0)) (by (with_reducible repeat (first | refine z16 ?_ _ | refine z22 ?_ | refine z19 ?_ _)); exact BK335.out) hb); have n3_ := mkA (z17 (by repeat (first | (with_reducible first | exact HB.out | apply z11 | apply z10 | apply z12 | refine z15 ?_ GE335.out) | exact HB.out)) hb); clear BK335; clear HB; have HO341 := n0_; have HO344 := n1_; have BK335 := n2_; have HB := n3_; clear n0_ n1_ n2_ n3_; (try clear hb); (try clear hb2); (try clear hk); (try clear hi); (try clear ho0); (try clear ho1); obtain ⟨Ao99, co99, eo99⟩ := Kd.R_slice HO341.out; subst eo99; obtain ⟨Ao100, co100, eo100⟩ := Kd.R_slice HO344.out; subst eo100) | ((with_reducible refine z24 (f := 37) rfl ?_); refine goesL_ (some 14) rfl rfl Try.func37 (by kernel_rfl) rfl #[.agg #[.int .i64 t338, .slice Ao99 t339.length co99, .slice Ao100 t342.length co100]] rfl (by (try simp only [List.map_toArray, List.map_cons, List.map_nil]); first | done | rfl | (simp only [List.length_drop, List.length_take]; rfl)) ?_; (with_reducible refine (soap_Fewest.calls t338 _ _ t339 _ _ t342 t345 t346 t347 _ ?side1 ?side2 ?side3 ?side4 A5.out).mono ?_); (case side1 => repeat (first | exact (Kd.R_reads' HO341.out).2.2 | (with_reducible refine Kd.C_alloc ?_ _) | (with_reducible refine Kd.C_drewN ?_ _) | (with_reducible refine Kd.C_drew ?_))); (case side2 => exact (Kd.R_reads' HO341.out).2.1); (case side3 => repeat (first | exact (Kd.R_reads' HO344.out).2.2 | (with_reducible refine Kd.C_alloc ?_ _) | (with_reducible refine Kd.C_drewN ?_ _) | (with_reducible refine Kd.C_drew ?_))); (case side4 => exact (Kd.R_reads' HO344.out).2.1); rintro e w101 ⟨rfl, hb⟩; refine ⟨_, rfl, ?_⟩; have n0_ := mkA (Kd.R_below (by (with_reducible repeat (first | apply Kd.R_alloc | apply Kd.R_drewN | apply Kd.R_drew)); exact HO341.out) hb); have n1_ := mkA (Kd.R_below (by (with_reducible repeat (first | apply Kd.R_alloc | apply Kd.R_drewN | apply Kd.R_drew)); exact HO344.out) hb); have n2_ := mkA (blk_below (g := gb335) (o := .cells #[.int .i64 a0_0, .slice A0_1 l0_1.length c0_1, .slice A0_2 l0_2.length c0_2] 25 (0, 0)) (by (with_reducible repeat (first | refine z16 ?_ _ | refine z22 ?_ | refine z19 ?_ _)); exact BK335.out) hb); have n3_ := mkA (z17 (by repeat (first | (with_reducible first | exact HB.out | apply z11 | apply z10 | apply z12 | refine z15 ?_ GE335.out) | exact HB.out)) hb); clear HO341; clear HO344; clear BK335; clear HB; have HO341 := n0_; have HO344 := n1_; have BK335 := n2_; have HB := n3_; clear n0_ n1_ n2_ n3_; (try clear hb); (try clear hb2); (try clear hk); (try clear hi)) | ((with_reducible refine z26 (N := 3) rfl ?_); refine z25 ?hg (N := 3) ?hd (cs := #[.int .i64 0, .int .i64 0]) (t := 44) ?hr ?_; (case hd => rfl); (case hg => rfl); (case hr => first | (go_simp; done) | (go_simp; rfl)); intro gb348 hg w102 hbox hb; have n0_ := mkA (Kd.R_below (by (with_reducible repeat (first | apply Kd.R_alloc | apply Kd.R_drewN | apply Kd.R_drew)); exact HO341.out) hb); have n1_ := mkA (Kd.R_below (by (with_reducible repeat (first | apply Kd.R_alloc | apply Kd.R_drewN | apply Kd.R_drew)); exact HO344.out) hb); have n2_ := mkA (blk_below (g := gb335) (o := .cells #[.int .i64 a0_0, .slice A0_1 l0_1.length c0_1, .slice A0_2 l0_2.length c0_2] 25 (0, 0)) (by (with_reducible repeat (first | refine z16 ?_ _ | refine z22 ?_ | refine z19 ?_ _)); exact BK335.out) hb); have n3_ := mkA (z17 (by repeat (first | (with_reducible first | exact HB.out | apply z11 | apply z10 | apply z12 | refine z15 ?_ GE335.out) | exact HB.out)) hb); have n4_ := mkA (hbox); have n5_ := mkA ((by rw [hg]; exact (z18 (by repeat (first | (with_reducible first | exact HB.out | apply z11 | apply z10 | apply z12 | refine z15 ?_ GE335.out) | exact HB.out))) : w.heap.size ≤ gb348)); have n6_ := mkA ((by rw [hg]; exact (z18 (by repeat (first | (with_reducible first | exact HB.out | apply z11 | apply z10 | apply z12 | refine z15 ?_ GE335.out) | exact HB.out))) : w.heap.size ≤ gb348)); have n7_ := mkA ((by rw [hg]; exact Nat.ne_of_lt (blk_lt (g := gb335) (o := .cells #[.int .i64 a0_0, .slice A0_1 l0_1.length c0_1, .slice A0_2 l0_2.length c0_2] 25 (0, 0)) (by (with_reducible repeat (first | refine z16 ?_ _ | refine z22 ?_ | refine z19 ?_ _)); exact BK335.out)) : gb335 ≠ gb348)); have n8_ := mkA ((by rw [hg]; exact Nat.ne_of_gt (blk_lt (g := gb335) (o := .cells #[.int .i64 a0_0, .slice A0_1 l0_1.length c0_1, .slice A0_2 l0_2.length c0_2] 25 (0, 0)) (by (with_reducible repeat (first | refine z16 ?_ _ | refine z22 ?_ | refine z19 ?_ _)); exact BK335.out)) : gb348 ≠ gb335)); clear HO341; clear HO344; clear BK335; clear HB; have HO341 := n0_; have HO344 := n1_; have BK335 := n2_; have HB := n3_; have BK348 := n4_; have GW348 := n5_; have GE348 := n6_; have NB335_348 := n7_; have NB348_335 := n8_; clear n0_ n1_ n2_ n3_ n4_ n5_ n6_ n7_ n8_; clear hb hbox hg; have hnb103 := NB348_335.out; have hnc103 := NB335_348.out; have hcz104_0 : w102.cell? ⟨gb348, 0, none⟩ = some (.int .i64 0) := (z13 BK348.out 0).trans rfl; have hcz104_1 : w102.cell? ⟨gb348, 1, none⟩ = some (.int .i64 0) := (z13 BK348.out 1).trans rfl; have hfz104_0 := z14 BK348.out 0; have hfz104_1 := z14 BK348.out 1; have hcz105_0 : w102.cell? ⟨gb335, 0, none⟩ = some (.int .i64 a0_0) := (z13 BK335.out 0).trans rfl; have hcz105_1 : w102.cell? ⟨gb335, 1, none⟩ = some (.slice A0_1 l0_1.length c0_1) := (z13 BK335.out 1).trans rfl; have hcz105_2 : w102.cell? ⟨gb335, 2, none⟩ = some (.slice A0_2 l0_2.length c0_2) := (z13 BK335.out 2).trans rfl; have hfz105_0 := z14 BK335.out 0; have hfz105_1 := z14 BK335.out 1; have hfz105_2 := z14 BK335.out 2) | ((with_reducible refine z24 (f := 25) rfl ?_); refine goesL_ (some 19) rfl rfl Try.func25 (by kernel_rfl) rfl #[.agg #[.int .i64 a0_0, .slice A0_1 l0_1.length c0_1, .slice A0_2 l0_2.length c0_2]] rfl (by (try simp only [List.map_toArray, List.map_cons, List.map_nil]); first | done | rfl | (simp only [List.length_drop, List.length_take]; rfl)) ?_; (with_reducible refine (pl_sure.calls k a0_0 _ _ l0_1 _ _ l0_2 t349 t352 _ ?side1 ?side2 ?side3 ?side4 A6.out).mono ?_); (case side1 => exact Kd.C_below HR0_1.out (by repeat (first | (with_reducible first | exact HB.out | apply z11 | apply z10 | apply z12 | refine z15 ?_ GE335.out | refine z15 ?_ GE348.out) | exact HB.out))); (case side2 => exact HC0_1.out); (case side3 => exact Kd.C_below HR0_2.out (by repeat (first | (with_reducible first | exact HB.out | apply z11 | apply z10 | apply z12 | refine z15 ?_ GE335.out | refine z15 ?_ GE348.out) | exact HB.out))); (case side4 => exact HC0_2.out); rintro e w106 ⟨v350, rfl, ho0, hb⟩; refine ⟨_, rfl, ?_⟩; have n0_ := mkA (Kd.R_below (by (with_reducible repeat (first | apply Kd.R_alloc | apply Kd.R_drewN | apply Kd.R_drew)); exact (Kd.R_mono (Kd.R_far (p := ⟨gb348, 1, none⟩) (Kd.R_far (p := ⟨gb348, 0, none⟩) (Kd.R_types HO341.out BK348.out (by decide)) (fun _ hk => hk.2) (.int .i64 t345)) (fun _ hk => hk.2) (.int .i64 t346)) (fun _ h_ => h_.1))) hb); have n1_ := mkA (Kd.R_below (by (with_reducible repeat (first | apply Kd.R_alloc | apply Kd.R_drewN | apply Kd.R_drew)); exact (Kd.R_mono (Kd.R_far (p := ⟨gb348, 1, none⟩) (Kd.R_far (p := ⟨gb348, 0, none⟩) (Kd.R_types HO344.out BK348.out (by decide)) (fun _ hk => hk.2) (.int .i64 t345)) (fun _ hk => hk.2) (.int .i64 t346)) (fun _ h_ => h_.1))) hb); have n2_ := mkA (Kd.S_lower ho0 (z18 (by repeat (first | (with_reducible first | exact HB.out | apply z11 | apply z10 | apply z12 | refine z15 ?_ GE335.out | refine z15 ?_ GE348.out) | exact HB.out)))); have n3_ := mkA (blk_below (g := gb335) (o := .cells #[.int .i64 a0_0, .slice A0_1 l0_1.length c0_1, .slice A0_2 l0_2.length c0_2] 25 (0, 0)) (by (with_reducible repeat (first | refine z16 ?_ _ | refine z22 ?_ | refine z19 ?_ _)); refine blk_far ?_ NB335_348.out _; (with_reducible repeat (first | refine z16 ?_ _ | refine z22 ?_ | refine z19 ?_ _)); refine blk_far ?_ NB335_348.out _; (with_reducible repeat (first | refine z16 ?_ _ | refine z22 ?_ | refine z19 ?_ _)); exact BK335.out) hb); have n4_ := mkA (blk_below (g := gb348) (o := .cells #[.int .i64 t345, .int .i64 t346] 44 (0, 0)) (by (with_reducible repeat (first | refine z16 ?_ _ | refine z22 ?_ | refine z19 ?_ _)); refine blk_put (cs := #[.int .i64 t345, .int .i64 0]) ?_ 1 _ rfl; (with_reducible repeat (first | refine z16 ?_ _ | refine z22 ?_ | refine z19 ?_ _)); refine blk_put (cs := #[.int .i64 0, .int .i64 0]) ?_ 0 _ rfl; (with_reducible repeat (first | refine z16 ?_ _ | refine z22 ?_ | refine z19 ?_ _)); exact BK348.out) hb); have n5_ := mkA (z17 (by repeat (first | (with_reducible first | exact HB.out | apply z11 | apply z10 | apply z12 | refine z15 ?_ GE335.out | refine z15 ?_ GE348.out) | exact HB.out)) hb); clear HO341; clear HO344; clear BK335; clear BK348; clear HB; have HO341 := n0_; have HO344 := n1_; have HO351 := n2_; have BK335 := n3_; have BK348 := n4_; have HB := n5_; clear n0_ n1_ n2_ n3_ n4_ n5_; (try clear hb); (try clear hb2); (try clear hk); (try clear hi); (try clear ho0)))
    go_ret
    exact ⟨by first | rfl | (simp [z21, z20] <;> rfl) | (simp [*, z21, z20] <;> rfl), by repeat (first | (with_reducible first | exact HB.out | apply z11 | apply z10 | apply z12 | refine z15 ?_ GE335.out | refine z15 ?_ GE348.out) | exact HB.out)⟩
 ·replace c3 := Bool.eq_false_iff.mpr c3
  subst c3
  have H1 : ((pl_awake.f).bind fun t337 => (some t337)) = some r := by rw [if_neg (show ¬ (false = true) by decide)] at H; exact H
  clear H
  have H := H1
  clear H1
  replace H := Option.bind_eq_some_iff.mp H
  obtain ⟨t337, A1070, H⟩ := H
  replace H : (some t337) = some r := H
  have A107 := mkA A1070
  clear A1070
  obtain rfl := Option.some.inj H
  go_enter Try.func5, Try.ntmps5
  go_wp2_with (first | ((with_reducible refine z26 (N := 1) rfl ?_); refine z25 ?hg (N := 1) ?hd (cs := #[.int .i64 a0_0, .slice A0_1 l0_1.length c0_1, .slice A0_2 l0_2.length c0_2]) (t := 25) ?hr ?_; (case hd => rfl); (case hg => rfl); (case hr => first | (go_simp; done) | (go_simp; rfl)); intro gb335 hg w108 hbox hb; have n0_ := mkA (z17 (by repeat (first | (with_reducible first | exact HB.out | apply z11 | apply z10 | apply z12) | exact HB.out)) hb); have n1_ := mkA (hbox); have n2_ := mkA ((by rw [hg]; exact (z18 (by repeat (first | (with_reducible first | exact HB.out | apply z11 | apply z10 | apply z12) | exact HB.out))) : w.heap.size ≤ gb335)); have n3_ := mkA ((by rw [hg]; exact (z18 (by repeat (first | (with_reducible first | exact HB.out | apply z11 | apply z10 | apply z12) | exact HB.out))) : w.heap.size ≤ gb335)); clear HB; have HB := n0_; have BK335 := n1_; have GW335 := n2_; have GE335 := n3_; clear n0_ n1_ n2_ n3_; clear hb hbox hg; have hcz109_0 : w108.cell? ⟨gb335, 0, none⟩ = some (.int .i64 a0_0) := (z13 BK335.out 0).trans rfl; have hcz109_1 : w108.cell? ⟨gb335, 1, none⟩ = some (.slice A0_1 l0_1.length c0_1) := (z13 BK335.out 1).trans rfl; have hcz109_2 : w108.cell? ⟨gb335, 2, none⟩ = some (.slice A0_2 l0_2.length c0_2) := (z13 BK335.out 2).trans rfl; have hfz109_0 := z14 BK335.out 0; have hfz109_1 := z14 BK335.out 1; have hfz109_2 := z14 BK335.out 2) | ((with_reducible refine z24 (f := 20) rfl ?_); refine goesL_ (some 8) rfl rfl Try.func20 (by kernel_rfl) rfl #[.agg #[.int .i64 a0_0, .slice A0_1 l0_1.length c0_1, .slice A0_2 l0_2.length c0_2]] rfl (by (try simp only [List.map_toArray, List.map_cons, List.map_nil]); first | done | rfl | (simp only [List.length_drop, List.length_take]; rfl)) ?_; (with_reducible refine (pl_Thin.calls a0_0 _ _ l0_1 _ _ l0_2 false _ ?side1 ?side2 ?side3 ?side4 A2.out).mono ?_); (case side1 => repeat (first | exact (Kd.C_below HR0_1.out HB.out) | (with_reducible refine Kd.C_alloc ?_ _) | (with_reducible refine Kd.C_drewN ?_ _) | (with_reducible refine Kd.C_drew ?_))); (case side2 => exact HC0_1.out); (case side3 => repeat (first | exact (Kd.C_below HR0_2.out HB.out) | (with_reducible refine Kd.C_alloc ?_ _) | (with_reducible refine Kd.C_drewN ?_ _) | (with_reducible refine Kd.C_drew ?_))); (case side4 => exact HC0_2.out); rintro e w110 ⟨rfl, hb⟩; refine ⟨_, rfl, ?_⟩; have n0_ := mkA (blk_below (g := gb335) (o := .cells #[.int .i64 a0_0, .slice A0_1 l0_1.length c0_1, .slice A0_2 l0_2.length c0_2] 25 (0, 0)) (by (with_reducible repeat (first | refine z16 ?_ _ | refine z22 ?_ | refine z19 ?_ _)); exact BK335.out) hb); have n1_ := mkA (z17 (by repeat (first | (with_reducible first | exact HB.out | apply z11 | apply z10 | apply z12 | refine z15 ?_ GE335.out) | exact HB.out)) hb); clear BK335; clear HB; have BK335 := n0_; have HB := n1_; clear n0_ n1_; (try clear hb); (try clear hb2); (try clear hk); (try clear hi)) | ((with_reducible refine z24 (f := 21) rfl ?_); refine goesL_ (some 10) rfl rfl Try.func21 (by kernel_rfl) rfl #[] rfl (by (try simp only [List.map_toArray, List.map_cons, List.map_nil]); first | done | rfl | (simp only [List.length_drop, List.length_take]; rfl)) ?_; (with_reducible refine (pl_awake.calls  t337 _ A107.out).mono ?_); rintro e w111 ⟨rfl, hb⟩; refine ⟨_, rfl, ?_⟩; have n0_ := mkA (blk_below (g := gb335) (o := .cells #[.int .i64 a0_0, .slice A0_1 l0_1.length c0_1, .slice A0_2 l0_2.length c0_2] 25 (0, 0)) (by (with_reducible repeat (first | refine z16 ?_ _ | refine z22 ?_ | refine z19 ?_ _)); exact BK335.out) hb); have n1_ := mkA (z17 (by repeat (first | (with_reducible first | exact HB.out | apply z11 | apply z10 | apply z12 | refine z15 ?_ GE335.out) | exact HB.out)) hb); clear BK335; clear HB; have BK335 := n0_; have HB := n1_; clear n0_ n1_; (try clear hb); (try clear hb2); (try clear hk); (try clear hi)))
  go_ret
  exact ⟨by first | rfl | (simp [z21, z20] <;> rfl) | (simp [*, z21, z20] <;> rfl), by repeat (first | (with_reducible first | exact HB.out | apply z11 | apply z10 | apply z12 | refine z15 ?_ GE335.out) | exact HB.out)⟩
end Go.Proofs.Ytncaadckehikpaa.Q
