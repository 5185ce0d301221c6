/- A part of the proof: contracts of functions and plain facts (Q33). No condition. -/
import Derived.Test.YtncaadckehikpaaM3
import Derived.Test.YtncaadckehikpaaM11
import Derived.Test.YtncaadckehikpaaM12
import Derived.Test.YtncaadckehikpaaM15
import Derived.Test.YtncaadckehikpaaM14
import Derived.Test.YtncaadckehikpaaM23
import Derived.Test.YtncaadckehikpaaM24
import Derived.Test.YtncaadckehikpaaM28
import Derived.Test.YtncaadckehikpaaM5
import Derived.Test.YtncaadckehikpaaM9
import Derived.Test.YtncaadckehikpaaM10
namespace Go.Proofs.Ytncaadckehikpaa.Q
open Go.RowKit Go.Proofs.YtncaadckehikpaaW.PrintWords Go.Proofs.YtncaadckehikpaaW.PrintLast Go.Proofs.YtncaadckehikpaaW.PrintMore
attribute [local go_sem] z38 z37 max_two min_two   -- for this text's walks alone
set_option linter.unusedVariables false
set_option linter.unusedSimpArgs false
/-! ### pl_SoapPlays: function 17 -/
mutual
def pl_SoapPlays.j0 : Nat → List Int → Bool → Int → List (S91) → List (S94) → Option (Bool)
 | 0, _, _, _, _, _ => none
 | k + 1, x1, x17, x1020000, x1020001, x1020002 => if x17 = true then ((pl_awake.f).bind fun t1021 => (some t1021)) else ((pl_Slate.f k x1020000 x1020001 x1020002).bind fun bt1022 => ((pl_list.f x1).bind fun t1029 => ((soap_Play.f bt1022.1 bt1022.2.1 bt1022.2.2 t1029).bind fun bt1032 => ((pl_Slate.f k x1020000 x1020001 x1020002).bind fun bt1036 => ((pl_list.f x1).bind fun t1043 => ((soap_ProveTruth.f bt1036.1 bt1036.2.1 bt1036.2.2 t1043).bind fun t1046 => ((pl_fault.f k x1020000 x1020001 x1020002).bind fun t1047 => ((pl_Slate.f k x1020000 x1020001 x1020002).bind fun bt1048 => ((soap_CheckSlate.f bt1048.1 bt1048.2.1 bt1048.2.2).bind fun t1055 => (if t1055 = t1047 then (if t1047 = 0 then ((pr_IsTruth.f k x1020000 x1020001 x1020002 x1).bind fun t1056 => (pl_SoapPlays.j1 k x1 bt1032.1 bt1032.2 t1047 (t1046 != t1056) x1020000 x1020001 x1020002)) else (pl_SoapPlays.j1 k x1 bt1032.1 bt1032.2 t1047 (t1046 != false) x1020000 x1020001 x1020002)) else (pl_SoapPlays.j1 k x1 bt1032.1 bt1032.2 t1047 true x1020000 x1020001 x1020002)))))))))))
def pl_SoapPlays.j1 : Nat → List Int → List Int → Int → Int → Bool → Int → List (S91) → List (S94) → Option (Bool)
 | 0, _, _, _, _, _, _, _, _ => none
 | k + 1, x1, x5, x6, x8, x49, x1020000, x1020001, x1020002 => if x49 = true then (some false) else (if x8 = 0 then ((pr_AreOunces.f k x1020000 x1020001 x1020002 x1).bind fun t1057 => (pl_SoapPlays.j2 k x1 x5 x6 x8 (!t1057) x1020000 x1020001 x1020002)) else (pl_SoapPlays.j2 k x1 x5 x6 x8 false x1020000 x1020001 x1020002))
def pl_SoapPlays.j2 : Nat → List Int → List Int → Int → Int → Bool → Int → List (S91) → List (S94) → Option (Bool)
 | 0, _, _, _, _, _, _, _, _ => none
 | k + 1, x1, x5, x6, x8, x57, x1020000, x1020001, x1020002 => if x57 = true then (pl_SoapPlays.j3 k x1 x5 x6 2 x1020000 x1020001 x1020002) else (pl_SoapPlays.j3 k x1 x5 x6 x8 x1020000 x1020001 x1020002)
def pl_SoapPlays.j3 : Nat → List Int → List Int → Int → Int → Int → List (S91) → List (S94) → Option (Bool)
 | 0, _, _, _, _, _, _, _ => none
 | k + 1, x1, x5, x6, x8, x1020000, x1020001, x1020002 => if x8 = 0 then (if x6 = 0 then (pl_SoapPlays.j4 k x1 x5 ((x5.length : Int) != x1020000) x1020000 x1020001 x1020002) else (pl_SoapPlays.j4 k x1 x5 true x1020000 x1020001 x1020002)) else (if x6 = x8 then (if (x5.length : Int) = 0 then ((pl_awake.f).bind fun t1058 => (some t1058)) else (some false)) else (some false))
def pl_SoapPlays.j4 : Nat → List Int → List Int → Bool → Int → List (S91) → List (S94) → Option (Bool)
 | 0, _, _, _, _, _, _ => none
 | k + 1, x1, x5, x79, x1020000, x1020001, x1020002 => if x79 = true then (some false) else (pl_SoapPlays.l0 k x1 x5 0 x1020000 x1020001 x1020002)
def pl_SoapPlays.l0 : Nat → List Int → List Int → Int → Int → List (S91) → List (S94) → Option (Bool)
 | 0, _, _, _, _, _, _ => none
 | k + 1, x1, x5, x9, x1020000, x1020001, x1020002 => if x9 < (x5.length : Int) then (if 0 ≤ x9 then ((pr_Owed.f k x1020000 x1020001 x1020002 x1 x9).bind fun t1060 => (if (rd x5 x9) = t1060 then (pl_SoapPlays.l0 k x1 x5 (wrap64 (x9 + 1)) x1020000 x1020001 x1020002) else (some false))) else (none)) else ((pl_awake.f).bind fun t1061 => (some t1061))
end
def pl_SoapPlays.f (k : Nat) (a0_0 : Int) (l0_1 : List (S91)) (l0_2 : List (S94)) (l1 : List Int) : Option (Bool) := (pl_Thin.f a0_0 l0_1 l0_2).bind fun t1020 => (if t1020 = true then (pl_SoapPlays.j0 k l1 (decide ((l1.length : Int) > 30)) a0_0 l0_1 l0_2) else (pl_SoapPlays.j0 k l1 true a0_0 l0_1 l0_2))
def pl_SoapPlays.T17 : Bool × List (List Nat × List Nat) := (true, [([], []), ([], []), ([0, 1], [0, 1]), ([2], [2]), ([], []), ([], []), ([], []), ([4, 5, 6], [4, 5, 6]), ([3, 7], [3, 7])])
def pl_SoapPlays.B17 : List Nat := [0, 0, 3, 7, 0, 0, 0, 112, 255]
theorem pl_SoapPlays.tab17 : rtab .any (opsOf Try.f17 17) = pl_SoapPlays.T17 := by kernel_rfl
theorem pl_SoapPlays.bits17 : waitsOk pl_SoapPlays.T17.2 pl_SoapPlays.B17 = true := by kernel_rfl
set_option maxHeartbeats 8000000 in
set_option maxRecDepth 100000 in
theorem pl_SoapPlays.calls (k : Nat) (a0_0 : Int) (A0_1 : Option Addr) (c0_1 : Nat) (l0_1 : List (S91)) (A0_2 : Option Addr) (c0_2 : Nat) (l0_2 : List (S94)) (A1 : Option Addr) (c1 : Nat) (l1 : List Int) (r : Bool) (w : World) (hr0_1 : Kd.C k91 w A0_1 l0_1.length l0_1) (hc0_1 : l0_1.length ≤ c0_1) (hr0_2 : Kd.C k94 w A0_2 l0_2.length l0_2) (hc0_2 : l0_2.length ≤ c0_2) (hr1 : Kd.C (Kd.int .i64) w A1 l1.length l1) (hc1 : l1.length ≤ c1) (h : pl_SoapPlays.f k a0_0 l0_1 l0_2 l1 = some r) :
  Calls Try.prog 17 #[.agg #[.int .i64 a0_0, .slice A0_1 l0_1.length c0_1, .slice A0_2 l0_2.length c0_2], .slice A1 l1.length c1] w fun e w' => e = .returned (.bool r) ∧ Below w.heap.size w w' := by
 have hu25 := Try.underlying25
 have HR0_1 := mkA hr0_1
 have HC0_1 := mkA hc0_1
 clear hr0_1 hc0_1
 have HR0_2 := mkA hr0_2
 have HC0_2 := mkA hc0_2
 clear hr0_2 hc0_2
 have HR1 := mkA hr1
 have HC1 := mkA hc1
 clear hr1 hc1
 have HB := mkA (Below.refl w.heap.size w)
 have H : ((pl_Thin.f a0_0 l0_1 l0_2).bind fun t1020 => (if t1020 = true then (pl_SoapPlays.j0 k l1 (decide ((l1.length : Int) > 30)) a0_0 l0_1 l0_2) else (pl_SoapPlays.j0 k l1 true a0_0 l0_1 l0_2))) = some r := h
 clear h
 have HC3 := mkA H
 clear H
 go_enter Try.func17, Try.ntmps17
 go_upto_region 1 with (first | ((with_reducible refine z26 (N := 2) rfl ?_); (try (refine z34 (by rfl) ?_; dsimp only)); refine z23 ?hg (N := 2) ?hd (cs := #[.int .i64 a0_0, .slice A0_1 l0_1.length c0_1, .slice A0_2 l0_2.length c0_2]) (t := 25) ?hr ?_; (case hd => rfl); (case hg => rfl); (case hr => first | (go_simp; done) | (go_simp; rfl)); intro gb1019 hg w4 hbox hb; have n0_ := mkA (z17 (by repeat (first | (with_reducible first | exact HB.out | apply z11 | apply z10 | apply z12) | exact HB.out)) hb); have n1_ := mkA (hbox); have n2_ := mkA ((by rw [hg]; exact (z18 (by repeat (first | (with_reducible first | exact HB.out | apply z11 | apply z10 | apply z12) | exact HB.out))) : w.heap.size ≤ gb1019)); have n3_ := mkA ((by rw [hg]; exact (z18 (by repeat (first | (with_reducible first | exact HB.out | apply z11 | apply z10 | apply z12) | exact HB.out))) : w.heap.size ≤ gb1019)); clear HB; have HB := n0_; have BK1019 := n1_; have GW1019 := n2_; have GE1019 := n3_; clear n0_ n1_ n2_ n3_; clear hb hbox hg))
 (try simp only [Act.put, xq1, xq2, xq3])
 go_cut [17] (fun v17 wc => ∃ (kq : Nat) (x17_2 : Bool), v17 = .bool x17_2 ∧ Aside0 (pl_SoapPlays.j0 kq l1 x17_2 a0_0 l0_1 l0_2 = some r) ∧ Aside0 (kq ≤ k) ∧ Aside0 (wc.heap[gb1019]? = some (.cells #[.int .i64 a0_0, (.slice A0_1 l0_1.length c0_1), (.slice A0_2 l0_2.length c0_2)] 25 (0, 0))) ∧ Aside0 (Below w.heap.size w wc))
 case first =>
  have H := HC3.out
  clear HC3
  replace H := Option.bind_eq_some_iff.mp H
  obtain ⟨t1020, A50, H⟩ := H
  replace H : (if t1020 = true then (pl_SoapPlays.j0 k l1 (decide ((l1.length : Int) > 30)) a0_0 l0_1 l0_2) else (pl_SoapPlays.j0 k l1 true a0_0 l0_1 l0_2)) = some r := H
  have A5 := mkA A50
  clear A50
  by_cases c6 : t1020 = true
  ·subst c6
   have H1 : (pl_SoapPlays.j0 k l1 (decide ((l1.length : Int) > 30)) a0_0 l0_1 l0_2) = some r := by rw [if_pos rfl] at H; exact H
   clear H
   have H := H1
   clear H1
   have H' := mkA H
   clear H
   have hcz7_0 : w4.cell? ⟨gb1019, 0, none⟩ = some (.int .i64 a0_0) := (z13 BK1019.out 0).trans rfl
   have hcz7_1 : w4.cell? ⟨gb1019, 1, none⟩ = some (.slice A0_1 l0_1.length c0_1) := (z13 BK1019.out 1).trans rfl
   have hcz7_2 : w4.cell? ⟨gb1019, 2, none⟩ = some (.slice A0_2 l0_2.length c0_2) := (z13 BK1019.out 2).trans rfl
   have hfz7_0 := z14 BK1019.out 0
   have hfz7_1 := z14 BK1019.out 1
   have hfz7_2 := z14 BK1019.out 2
   go_wp2_with (first | ((with_reducible refine z22 (f := 20) rfl ?_); refine goesL_ (some 11) rfl rfl Try.func20 (by kernel_rfl) rfl #[.agg #[.int .i64 a0_0, .slice A0_1 l0_1.length c0_1, .slice A0_2 l0_2.length c0_2]] rfl (by (try simp only [List.map_toArray, List.map_cons, List.map_nil]); first | done | rfl | (simp only [List.length_drop, List.length_take]; rfl)) ?_; (with_reducible refine (pl_Thin.calls a0_0 _ _ l0_1 _ _ l0_2 true _ ?side1 ?side2 ?side3 ?side4 A5.out).mono ?_); (case side1 => repeat (first | exact (Kd.C_below HR0_1.out HB.out) | (with_reducible refine Kd.C_alloc ?_ _) | (with_reducible refine Kd.C_drewN ?_ _) | (with_reducible refine Kd.C_drew ?_))); (case side2 => exact HC0_1.out); (case side3 => repeat (first | exact (Kd.C_below HR0_2.out HB.out) | (with_reducible refine Kd.C_alloc ?_ _) | (with_reducible refine Kd.C_drewN ?_ _) | (with_reducible refine Kd.C_drew ?_))); (case side4 => exact HC0_2.out); rintro e w8 ⟨rfl, hb⟩; refine ⟨_, rfl, ?_⟩; have n0_ := mkA (blk_below (g := gb1019) (o := .cells #[.int .i64 a0_0, .slice A0_1 l0_1.length c0_1, .slice A0_2 l0_2.length c0_2] 25 (0, 0)) (by (with_reducible repeat (first | refine z16 ?_ _ | refine z27 ?_ | refine z24 ?_ _)); exact BK1019.out) hb); have n1_ := mkA (z17 (by repeat (first | (with_reducible first | exact HB.out | apply z11 | apply z10 | apply z12 | refine z15 ?_ GE1019.out) | exact HB.out)) hb); clear BK1019; clear HB; have BK1019 := n0_; have HB := n1_; clear n0_ n1_; (try clear hb); (try clear hb2); (try clear hk); (try clear hi)))
   go_meet
   case rel => exact ⟨_, (decide ((l1.length : Int) > 30)), (by first | rfl | (simp; done) | (simp [*]; done)), H', ⟨by first | omega | exact Nat.le_refl _⟩, ⟨by (with_reducible repeat (first | refine z16 ?_ _ | refine z27 ?_ | refine z24 ?_ _)); exact BK1019.out⟩, ⟨by repeat (first | (with_reducible first | exact HB.out | apply z11 | apply z10 | apply z12 | refine z15 ?_ GE1019.out) | exact HB.out)⟩⟩
  ·replace c6 := Bool.eq_false_iff.mpr c6
   subst c6
   have H1 : (pl_SoapPlays.j0 k l1 true a0_0 l0_1 l0_2) = some r := by rw [if_neg (show ¬ (false = true) by decide)] at H; exact H
   clear H
   have H := H1
   clear H1
   have H' := mkA H
   clear H
   have hcz9_0 : w4.cell? ⟨gb1019, 0, none⟩ = some (.int .i64 a0_0) := (z13 BK1019.out 0).trans rfl
   have hcz9_1 : w4.cell? ⟨gb1019, 1, none⟩ = some (.slice A0_1 l0_1.length c0_1) := (z13 BK1019.out 1).trans rfl
   have hcz9_2 : w4.cell? ⟨gb1019, 2, none⟩ = some (.slice A0_2 l0_2.length c0_2) := (z13 BK1019.out 2).trans rfl
   have hfz9_0 := z14 BK1019.out 0
   have hfz9_1 := z14 BK1019.out 1
   have hfz9_2 := z14 BK1019.out 2
   go_wp2_with (first | ((with_reducible refine z22 (f := 20) rfl ?_); refine goesL_ (some 11) rfl rfl Try.func20 (by kernel_rfl) rfl #[.agg #[.int .i64 a0_0, .slice A0_1 l0_1.length c0_1, .slice A0_2 l0_2.length c0_2]] rfl (by (try simp only [List.map_toArray, List.map_cons, List.map_nil]); first | done | rfl | (simp only [List.length_drop, List.length_take]; rfl)) ?_; (with_reducible refine (pl_Thin.calls a0_0 _ _ l0_1 _ _ l0_2 false _ ?side1 ?side2 ?side3 ?side4 A5.out).mono ?_); (case side1 => repeat (first | exact (Kd.C_below HR0_1.out HB.out) | (with_reducible refine Kd.C_alloc ?_ _) | (with_reducible refine Kd.C_drewN ?_ _) | (with_reducible refine Kd.C_drew ?_))); (case side2 => exact HC0_1.out); (case side3 => repeat (first | exact (Kd.C_below HR0_2.out HB.out) | (with_reducible refine Kd.C_alloc ?_ _) | (with_reducible refine Kd.C_drewN ?_ _) | (with_reducible refine Kd.C_drew ?_))); (case side4 => exact HC0_2.out); rintro e w10 ⟨rfl, hb⟩; refine ⟨_, rfl, ?_⟩; have n0_ := mkA (blk_below (g := gb1019) (o := .cells #[.int .i64 a0_0, .slice A0_1 l0_1.length c0_1, .slice A0_2 l0_2.length c0_2] 25 (0, 0)) (by (with_reducible repeat (first | refine z16 ?_ _ | refine z27 ?_ | refine z24 ?_ _)); exact BK1019.out) hb); have n1_ := mkA (z17 (by repeat (first | (with_reducible first | exact HB.out | apply z11 | apply z10 | apply z12 | refine z15 ?_ GE1019.out) | exact HB.out)) hb); clear BK1019; clear HB; have BK1019 := n0_; have HB := n1_; clear n0_ n1_; (try clear hb); (try clear hb2); (try clear hk); (try clear hi)))
   go_meet
   case rel => exact ⟨_, (true), (by first | rfl | (simp; done) | (simp [*]; done)), H', ⟨by first | omega | exact Nat.le_refl _⟩, ⟨by (with_reducible repeat (first | refine z16 ?_ _ | refine z27 ?_ | refine z24 ?_ _)); exact BK1019.out⟩, ⟨by repeat (first | (with_reducible first | exact HB.out | apply z11 | apply z10 | apply z12 | refine z15 ?_ GE1019.out) | exact HB.out)⟩⟩
 case rest =>
  clear HC3
  try clear c1
  try clear c2
  try clear p2
  try clear c6
  try clear hcz7_0
  try clear hcz7_1
  try clear hcz7_2
  try clear hcz9_0
  try clear hcz9_1
  try clear hcz9_2
  try clear hfz7_0
  try clear hfz7_1
  try clear hfz7_2
  try clear hfz9_0
  try clear hfz9_1
  try clear hfz9_2
  obtain ⟨kq, x17_2, rfl, HA, HJ2, BK1019, HB⟩ := hcut
  cases kq with
  | zero => exact absurd HA.out (by simp [pl_SoapPlays.j0])
  | succ kj2 =>
   have H := HA.out
   clear HA
   simp only [pl_SoapPlays.j0] at H
   by_cases c11 : x17_2 = true
   ·subst c11
    have H1 : ((pl_awake.f).bind fun t1021 => (some t1021)) = some r := by rw [if_pos rfl] at H; exact H
    clear H
    have H := H1
    clear H1
    replace H := Option.bind_eq_some_iff.mp H
    obtain ⟨t1021, A120, H⟩ := H
    replace H : (some t1021) = some r := H
    have A12 := mkA A120
    clear A120
    obtain rfl := Option.some.inj H
    go_wp2_with (first | ((with_reducible refine z22 (f := 21) rfl ?_); refine goesL_ (some 18) rfl rfl Try.func21 (by kernel_rfl) rfl #[] rfl (by (try simp only [List.map_toArray, List.map_cons, List.map_nil]); first | done | rfl | (simp only [List.length_drop, List.length_take]; rfl)) ?_; (with_reducible refine (pl_awake.calls  t1021 _ A12.out).mono ?_); rintro e w13 ⟨rfl, hb⟩; refine ⟨_, rfl, ?_⟩; have n0_ := mkA (blk_below (g := gb1019) (o := .cells #[.int .i64 a0_0, .slice A0_1 l0_1.length c0_1, .slice A0_2 l0_2.length c0_2] 25 (0, 0)) (by (with_reducible repeat (first | refine z16 ?_ _ | refine z27 ?_ | refine z24 ?_ _)); exact BK1019.out) hb); have n1_ := mkA (z17 (by repeat (first | (with_reducible first | exact HB.out | apply z11 | apply z10 | apply z12 | refine z15 ?_ GE1019.out) | exact HB.out)) hb); clear BK1019; clear HB; have BK1019 := n0_; have HB := n1_; clear n0_ n1_; (try clear hb); (try clear hb2); (try clear hk); (try clear hi)))
    go_ret
    exact ⟨by first | rfl | (simp [z20, z19] <;> rfl) | (simp [*, z20, z19] <;> rfl), by repeat (first | (with_reducible first | exact HB.out | apply z11 | apply z10 | apply z12 | refine z15 ?_ GE1019.out) | exact HB.out)⟩
   ·replace c11 := Bool.eq_false_iff.mpr c11
    subst c11
    have H1 : ((pl_Slate.f kj2 a0_0 l0_1 l0_2).bind fun bt1022 => ((pl_list.f l1).bind fun t1029 => ((soap_Play.f bt1022.1 bt1022.2.1 bt1022.2.2 t1029).bind fun bt1032 => ((pl_Slate.f kj2 a0_0 l0_1 l0_2).bind fun bt1036 => ((pl_list.f l1).bind fun t1043 => ((soap_ProveTruth.f bt1036.1 bt1036.2.1 bt1036.2.2 t1043).bind fun t1046 => ((pl_fault.f kj2 a0_0 l0_1 l0_2).bind fun t1047 => ((pl_Slate.f kj2 a0_0 l0_1 l0_2).bind fun bt1048 => ((soap_CheckSlate.f bt1048.1 bt1048.2.1 bt1048.2.2).bind fun t1055 => (if t1055 = t1047 then (if t1047 = 0 then ((pr_IsTruth.f kj2 a0_0 l0_1 l0_2 l1).bind fun t1056 => (pl_SoapPlays.j1 kj2 l1 bt1032.1 bt1032.2 t1047 (t1046 != t1056) a0_0 l0_1 l0_2)) else (pl_SoapPlays.j1 kj2 l1 bt1032.1 bt1032.2 t1047 (t1046 != false) a0_0 l0_1 l0_2)) else (pl_SoapPlays.j1 kj2 l1 bt1032.1 bt1032.2 t1047 true a0_0 l0_1 l0_2))))))))))) = some r := by rw [if_neg (show ¬ (false = true) by decide)] at H; exact H
    clear H
    have H := H1
    clear H1
    replace H := Option.bind_eq_some_iff.mp H
    obtain ⟨⟨t1022, t1023, t1026⟩, A140, H⟩ := H
    replace H : ((pl_list.f l1).bind fun t1029 => ((soap_Play.f t1022 t1023 t1026 t1029).bind fun bt1032 => ((pl_Slate.f kj2 a0_0 l0_1 l0_2).bind fun bt1036 => ((pl_list.f l1).bind fun t1043 => ((soap_ProveTruth.f bt1036.1 bt1036.2.1 bt1036.2.2 t1043).bind fun t1046 => ((pl_fault.f kj2 a0_0 l0_1 l0_2).bind fun t1047 => ((pl_Slate.f kj2 a0_0 l0_1 l0_2).bind fun bt1048 => ((soap_CheckSlate.f bt1048.1 bt1048.2.1 bt1048.2.2).bind fun t1055 => (if t1055 = t1047 then (if t1047 = 0 then ((pr_IsTruth.f kj2 a0_0 l0_1 l0_2 l1).bind fun t1056 => (pl_SoapPlays.j1 kj2 l1 bt1032.1 bt1032.2 t1047 (t1046 != t1056) a0_0 l0_1 l0_2)) else (pl_SoapPlays.j1 kj2 l1 bt1032.1 bt1032.2 t1047 (t1046 != false) a0_0 l0_1 l0_2)) else (pl_SoapPlays.j1 kj2 l1 bt1032.1 bt1032.2 t1047 true a0_0 l0_1 l0_2)))))))))) = some r := H
    have A14 := mkA A140
    clear A140
    replace H := Option.bind_eq_some_iff.mp H
    obtain ⟨t1029, A150, H⟩ := H
    replace H : ((soap_Play.f t1022 t1023 t1026 t1029).bind fun bt1032 => ((pl_Slate.f kj2 a0_0 l0_1 l0_2).bind fun bt1036 => ((pl_list.f l1).bind fun t1043 => ((soap_ProveTruth.f bt1036.1 bt1036.2.1 bt1036.2.2 t1043).bind fun t1046 => ((pl_fault.f kj2 a0_0 l0_1 l0_2).bind fun t1047 => ((pl_Slate.f kj2 a0_0 l0_1 l0_2).bind fun bt1048 => ((soap_CheckSlate.f bt1048.1 bt1048.2.1 bt1048.2.2).bind fun t1055 => (if t1055 = t1047 then (if t1047 = 0 then ((pr_IsTruth.f kj2 a0_0 l0_1 l0_2 l1).bind fun t1056 => (pl_SoapPlays.j1 kj2 l1 bt1032.1 bt1032.2 t1047 (t1046 != t1056) a0_0 l0_1 l0_2)) else (pl_SoapPlays.j1 kj2 l1 bt1032.1 bt1032.2 t1047 (t1046 != false) a0_0 l0_1 l0_2)) else (pl_SoapPlays.j1 kj2 l1 bt1032.1 bt1032.2 t1047 true a0_0 l0_1 l0_2))))))))) = some r := H
    have A15 := mkA A150
    clear A150
    replace H := Option.bind_eq_some_iff.mp H
    obtain ⟨⟨t1032, t1035⟩, A160, H⟩ := H
    replace H : ((pl_Slate.f kj2 a0_0 l0_1 l0_2).bind fun bt1036 => ((pl_list.f l1).bind fun t1043 => ((soap_ProveTruth.f bt1036.1 bt1036.2.1 bt1036.2.2 t1043).bind fun t1046 => ((pl_fault.f kj2 a0_0 l0_1 l0_2).bind fun t1047 => ((pl_Slate.f kj2 a0_0 l0_1 l0_2).bind fun bt1048 => ((soap_CheckSlate.f bt1048.1 bt1048.2.1 bt1048.2.2).bind fun t1055 => (if t1055 = t1047 then (if t1047 = 0 then ((pr_IsTruth.f kj2 a0_0 l0_1 l0_2 l1).bind fun t1056 => (pl_SoapPlays.j1 kj2 l1 t1032 t1035 t1047 (t1046 != t1056) a0_0 l0_1 l0_2)) else (pl_SoapPlays.j1 kj2 l1 t1032 t1035 t1047 (t1046 != false) a0_0 l0_1 l0_2)) else (pl_SoapPlays.j1 kj2 l1 t1032 t1035 t1047 true a0_0 l0_1 l0_2)))))))) = some r := H
    have A16 := mkA A160
    clear A160
    replace H := Option.bind_eq_some_iff.mp H
    obtain ⟨⟨t1036, t1037, t1040⟩, A170, H⟩ := H
    replace H : ((pl_list.f l1).bind fun t1043 => ((soap_ProveTruth.f t1036 t1037 t1040 t1043).bind fun t1046 => ((pl_fault.f kj2 a0_0 l0_1 l0_2).bind fun t1047 => ((pl_Slate.f kj2 a0_0 l0_1 l0_2).bind fun bt1048 => ((soap_CheckSlate.f bt1048.1 bt1048.2.1 bt1048.2.2).bind fun t1055 => (if t1055 = t1047 then (if t1047 = 0 then ((pr_IsTruth.f kj2 a0_0 l0_1 l0_2 l1).bind fun t1056 => (pl_SoapPlays.j1 kj2 l1 t1032 t1035 t1047 (t1046 != t1056) a0_0 l0_1 l0_2)) else (pl_SoapPlays.j1 kj2 l1 t1032 t1035 t1047 (t1046 != false) a0_0 l0_1 l0_2)) else (pl_SoapPlays.j1 kj2 l1 t1032 t1035 t1047 true a0_0 l0_1 l0_2))))))) = some r := H
    have A17 := mkA A170
    clear A170
    replace H := Option.bind_eq_some_iff.mp H
    obtain ⟨t1043, A180, H⟩ := H
    replace H : ((soap_ProveTruth.f t1036 t1037 t1040 t1043).bind fun t1046 => ((pl_fault.f kj2 a0_0 l0_1 l0_2).bind fun t1047 => ((pl_Slate.f kj2 a0_0 l0_1 l0_2).bind fun bt1048 => ((soap_CheckSlate.f bt1048.1 bt1048.2.1 bt1048.2.2).bind fun t1055 => (if t1055 = t1047 then (if t1047 = 0 then ((pr_IsTruth.f kj2 a0_0 l0_1 l0_2 l1).bind fun t1056 => (pl_SoapPlays.j1 kj2 l1 t1032 t1035 t1047 (t1046 != t1056) a0_0 l0_1 l0_2)) else (pl_SoapPlays.j1 kj2 l1 t1032 t1035 t1047 (t1046 != false) a0_0 l0_1 l0_2)) else (pl_SoapPlays.j1 kj2 l1 t1032 t1035 t1047 true a0_0 l0_1 l0_2)))))) = some r := H
    have A18 := mkA A180
    clear A180
    replace H := Option.bind_eq_some_iff.mp H
    obtain ⟨t1046, A190, H⟩ := H
    replace H : ((pl_fault.f kj2 a0_0 l0_1 l0_2).bind fun t1047 => ((pl_Slate.f kj2 a0_0 l0_1 l0_2).bind fun bt1048 => ((soap_CheckSlate.f bt1048.1 bt1048.2.1 bt1048.2.2).bind fun t1055 => (if t1055 = t1047 then (if t1047 = 0 then ((pr_IsTruth.f kj2 a0_0 l0_1 l0_2 l1).bind fun t1056 => (pl_SoapPlays.j1 kj2 l1 t1032 t1035 t1047 (t1046 != t1056) a0_0 l0_1 l0_2)) else (pl_SoapPlays.j1 kj2 l1 t1032 t1035 t1047 (t1046 != false) a0_0 l0_1 l0_2)) else (pl_SoapPlays.j1 kj2 l1 t1032 t1035 t1047 true a0_0 l0_1 l0_2))))) = some r := H
    have A19 := mkA A190
    clear A190
    replace H := Option.bind_eq_some_iff.mp H
    obtain ⟨t1047, A200, H⟩ := H
    replace H : ((pl_Slate.f kj2 a0_0 l0_1 l0_2).bind fun bt1048 => ((soap_CheckSlate.f bt1048.1 bt1048.2.1 bt1048.2.2).bind fun t1055 => (if t1055 = t1047 then (if t1047 = 0 then ((pr_IsTruth.f kj2 a0_0 l0_1 l0_2 l1).bind fun t1056 => (pl_SoapPlays.j1 kj2 l1 t1032 t1035 t1047 (t1046 != t1056) a0_0 l0_1 l0_2)) else (pl_SoapPlays.j1 kj2 l1 t1032 t1035 t1047 (t1046 != false) a0_0 l0_1 l0_2)) else (pl_SoapPlays.j1 kj2 l1 t1032 t1035 t1047 true a0_0 l0_1 l0_2)))) = some r := H
    have A20 := mkA A200
    clear A200
    have HC21 := mkA H
    clear H
    have hcz22_0 : wc.cell? ⟨gb1019, 0, none⟩ = some (.int .i64 a0_0) := (z13 BK1019.out 0).trans rfl
    have hcz22_1 : wc.cell? ⟨gb1019, 1, none⟩ = some (.slice A0_1 l0_1.length c0_1) := (z13 BK1019.out 1).trans rfl
    have hcz22_2 : wc.cell? ⟨gb1019, 2, none⟩ = some (.slice A0_2 l0_2.length c0_2) := (z13 BK1019.out 2).trans rfl
    have hfz22_0 := z14 BK1019.out 0
    have hfz22_1 := z14 BK1019.out 1
    have hfz22_2 := z14 BK1019.out 2
    go_upto_region 6 with (first | ((with_reducible refine z22 (f := 23) rfl ?_); refine goesL_ (some 21) rfl rfl Try.func23 (by kernel_rfl) rfl #[.agg #[.int .i64 a0_0, .slice A0_1 l0_1.length c0_1, .slice A0_2 l0_2.length c0_2]] rfl (by (try simp only [List.map_toArray, List.map_cons, List.map_nil]); first | done | rfl | (simp only [List.length_drop, List.length_take]; rfl)) ?_; (with_reducible refine (pl_Slate.calls kj2 a0_0 _ _ l0_1 _ _ l0_2 t1022 t1023 t1026 _ ?side1 ?side2 ?side3 ?side4 A14.out).mono ?_); (case side1 => repeat (first | exact (Kd.C_below HR0_1.out HB.out) | (with_reducible refine Kd.C_alloc ?_ _) | (with_reducible refine Kd.C_drewN ?_ _) | (with_reducible refine Kd.C_drew ?_))); (case side2 => exact HC0_1.out); (case side3 => repeat (first | exact (Kd.C_below HR0_2.out HB.out) | (with_reducible refine Kd.C_alloc ?_ _) | (with_reducible refine Kd.C_drewN ?_ _) | (with_reducible refine Kd.C_drew ?_))); (case side4 => exact HC0_2.out); rintro e w23 ⟨v1024, v1027, rfl, ho0, ho1, hb⟩; refine ⟨_, rfl, ?_⟩; have n0_ := mkA (Kd.R_lower ho0 (z18 (by repeat (first | (with_reducible first | exact HB.out | apply z11 | apply z10 | apply z12 | refine z15 ?_ GE1019.out) | exact HB.out)))); have n1_ := mkA (Kd.R_lower ho1 (z18 (by repeat (first | (with_reducible first | exact HB.out | apply z11 | apply z10 | apply z12 | refine z15 ?_ GE1019.out) | exact HB.out)))); have n2_ := mkA (blk_below (g := gb1019) (o := .cells #[.int .i64 a0_0, .slice A0_1 l0_1.length c0_1, .slice A0_2 l0_2.length c0_2] 25 (0, 0)) (by (with_reducible repeat (first | refine z16 ?_ _ | refine z27 ?_ | refine z24 ?_ _)); exact BK1019.out) hb); have n3_ := mkA (z17 (by repeat (first | (with_reducible first | exact HB.out | apply z11 | apply z10 | apply z12 | refine z15 ?_ GE1019.out) | exact HB.out)) hb); clear BK1019; clear HB; have HO1025 := n0_; have HO1028 := n1_; have BK1019 := n2_; have HB := n3_; clear n0_ n1_ n2_ n3_; (try clear hb); (try clear hb2); (try clear hk); (try clear hi); (try clear ho0); (try clear ho1)) | ((with_reducible refine z22 (f := 30) rfl ?_); refine goesL_ (some 23) rfl rfl Try.func30 (by kernel_rfl) rfl #[.slice A1 l1.length c1] rfl (by (try simp only [List.map_toArray, List.map_cons, List.map_nil]); first | done | rfl | (simp only [List.length_drop, List.length_take]; rfl)) ?_; (with_reducible refine (pl_list.calls _ _ l1 t1029 _ ?side1 ?side2 A15.out).mono ?_); (case side1 => repeat (first | exact (Kd.C_below HR1.out HB.out) | (with_reducible refine Kd.C_alloc ?_ _) | (with_reducible refine Kd.C_drewN ?_ _) | (with_reducible refine Kd.C_drew ?_))); (case side2 => exact HC1.out); rintro e w24 ⟨v1030, rfl, ho0, hb⟩; refine ⟨_, rfl, ?_⟩; have n0_ := mkA (Kd.R_below (by (with_reducible repeat (first | apply Kd.R_alloc | apply Kd.R_drewN | apply Kd.R_drew)); exact HO1025.out) hb); have n1_ := mkA (Kd.R_below (by (with_reducible repeat (first | apply Kd.R_alloc | apply Kd.R_drewN | apply Kd.R_drew)); exact HO1028.out) hb); have n2_ := mkA (Kd.R_lower ho0 (z18 (by repeat (first | (with_reducible first | exact HB.out | apply z11 | apply z10 | apply z12 | refine z15 ?_ GE1019.out) | exact HB.out)))); have n3_ := mkA (blk_below (g := gb1019) (o := .cells #[.int .i64 a0_0, .slice A0_1 l0_1.length c0_1, .slice A0_2 l0_2.length c0_2] 25 (0, 0)) (by (with_reducible repeat (first | refine z16 ?_ _ | refine z27 ?_ | refine z24 ?_ _)); exact BK1019.out) hb); have n4_ := mkA (z17 (by repeat (first | (with_reducible first | exact HB.out | apply z11 | apply z10 | apply z12 | refine z15 ?_ GE1019.out) | exact HB.out)) hb); clear HO1025; clear HO1028; clear BK1019; clear HB; have HO1025 := n0_; have HO1028 := n1_; have HO1031 := n2_; have BK1019 := n3_; have HB := n4_; clear n0_ n1_ n2_ n3_ n4_; (try clear hb); (try clear hb2); (try clear hk); (try clear hi); (try clear ho0); obtain ⟨Ao25, co25, eo25⟩ := Kd.R_slice HO1025.out; subst eo25; obtain ⟨Ao26, co26, eo26⟩ := Kd.R_slice HO1028.out; subst eo26; obtain ⟨Ao27, co27, eo27⟩ := Kd.R_slice HO1031.out; subst eo27) | ((with_reducible refine z22 (f := 48) rfl ?_); refine goesL_ (some 24) rfl rfl Try.func48 (by kernel_rfl) rfl #[.agg #[.int .i64 t1022, .slice Ao25 t1023.length co25, .slice Ao26 t1026.length co26], .slice Ao27 t1029.length co27] rfl (by (try simp only [List.map_toArray, List.map_cons, List.map_nil]); first | done | rfl | (simp only [List.length_drop, List.length_take]; rfl)) ?_; (with_reducible refine (soap_Play.calls t1022 _ _ t1023 _ _ t1026 _ _ t1029 t1032 t1035 _ ?side1 ?side2 ?side3 ?side4 ?side5 ?side6 A16.out).mono ?_); (case side1 => repeat (first | exact (Kd.R_reads' HO1025.out).2.2 | (with_reducible refine Kd.C_alloc ?_ _) | (with_reducible refine Kd.C_drewN ?_ _) | (with_reducible refine Kd.C_drew ?_))); (case side2 => exact (Kd.R_reads' HO1025.out).2.1); (case side3 => repeat (first | exact (Kd.R_reads' HO1028.out).2.2 | (with_reducible refine Kd.C_alloc ?_ _) | (with_reducible refine Kd.C_drewN ?_ _) | (with_reducible refine Kd.C_drew ?_))); (case side4 => exact (Kd.R_reads' HO1028.out).2.1); (case side5 => repeat (first | exact (Kd.R_reads' HO1031.out).2.2 | (with_reducible refine Kd.C_alloc ?_ _) | (with_reducible refine Kd.C_drewN ?_ _) | (with_reducible refine Kd.C_drew ?_))); (case side6 => exact (Kd.R_reads' HO1031.out).2.1); rintro e w28 ⟨v1033, rfl, ho0, hb⟩; refine ⟨_, rfl, ?_⟩; have n0_ := mkA (Kd.R_below (by (with_reducible repeat (first | apply Kd.R_alloc | apply Kd.R_drewN | apply Kd.R_drew)); exact HO1025.out) hb); have n1_ := mkA (Kd.R_below (by (with_reducible repeat (first | apply Kd.R_alloc | apply Kd.R_drewN | apply Kd.R_drew)); exact HO1028.out) hb); have n2_ := mkA (Kd.R_elder' (by (with_reducible repeat (first | apply Kd.R_alloc | apply Kd.R_drewN | apply Kd.R_drew)); exact HO1031.out) (Kd.R_base ho0) hb); have n3_ := mkA (Kd.R_lower (Kd.R_new' ho0 (Kd.R_lt (by (with_reducible repeat (first | apply Kd.R_alloc | apply Kd.R_drewN | apply Kd.R_drew)); exact HO1031.out))) (z18 (by repeat (first | (with_reducible first | exact HB.out | apply z11 | apply z10 | apply z12 | refine z15 ?_ GE1019.out) | exact HB.out)))); have n4_ := mkA (blk_below (g := gb1019) (o := .cells #[.int .i64 a0_0, .slice A0_1 l0_1.length c0_1, .slice A0_2 l0_2.length c0_2] 25 (0, 0)) (by (with_reducible repeat (first | refine z16 ?_ _ | refine z27 ?_ | refine z24 ?_ _)); exact BK1019.out) hb); have n5_ := mkA (z17 (by repeat (first | (with_reducible first | exact HB.out | apply z11 | apply z10 | apply z12 | refine z15 ?_ GE1019.out) | exact HB.out)) hb); clear HO1025; clear HO1028; clear HO1031; clear BK1019; clear HB; have HO1025 := n0_; have HO1028 := n1_; have HO1031 := n2_; have HO1034 := n3_; have BK1019 := n4_; have HB := n5_; clear n0_ n1_ n2_ n3_ n4_ n5_; (try clear hb); (try clear hb2); (try clear hk); (try clear hi); (try clear ho0); have hcz29_0 : w28.cell? ⟨gb1019, 0, none⟩ = some (.int .i64 a0_0) := (z13 BK1019.out 0).trans rfl; have hcz29_1 : w28.cell? ⟨gb1019, 1, none⟩ = some (.slice A0_1 l0_1.length c0_1) := (z13 BK1019.out 1).trans rfl; have hcz29_2 : w28.cell? ⟨gb1019, 2, none⟩ = some (.slice A0_2 l0_2.length c0_2) := (z13 BK1019.out 2).trans rfl; have hfz29_0 := z14 BK1019.out 0; have hfz29_1 := z14 BK1019.out 1; have hfz29_2 := z14 BK1019.out 2) | ((with_reducible refine z22 (f := 23) rfl ?_); refine goesL_ (some 28) rfl rfl Try.func23 (by kernel_rfl) rfl #[.agg #[.int .i64 a0_0, .slice A0_1 l0_1.length c0_1, .slice A0_2 l0_2.length c0_2]] rfl (by (try simp only [List.map_toArray, List.map_cons, List.map_nil]); first | done | rfl | (simp only [List.length_drop, List.length_take]; rfl)) ?_; (with_reducible refine (pl_Slate.calls kj2 a0_0 _ _ l0_1 _ _ l0_2 t1036 t1037 t1040 _ ?side1 ?side2 ?side3 ?side4 A17.out).mono ?_); (case side1 => repeat (first | exact (Kd.C_below HR0_1.out HB.out) | (with_reducible refine Kd.C_alloc ?_ _) | (with_reducible refine Kd.C_drewN ?_ _) | (with_reducible refine Kd.C_drew ?_))); (case side2 => exact HC0_1.out); (case side3 => repeat (first | exact (Kd.C_below HR0_2.out HB.out) | (with_reducible refine Kd.C_alloc ?_ _) | (with_reducible refine Kd.C_drewN ?_ _) | (with_reducible refine Kd.C_drew ?_))); (case side4 => exact HC0_2.out); rintro e w30 ⟨v1038, v1041, rfl, ho0, ho1, hb⟩; refine ⟨_, rfl, ?_⟩; have n0_ := mkA (Kd.R_elder' (by (with_reducible repeat (first | apply Kd.R_alloc | apply Kd.R_drewN | apply Kd.R_drew)); exact HO1025.out) (Kd.R_base ho0) hb); have n1_ := mkA (Kd.R_elder' (by (with_reducible repeat (first | apply Kd.R_alloc | apply Kd.R_drewN | apply Kd.R_drew)); exact HO1028.out) (Kd.R_base ho1) hb); have n2_ := mkA (Kd.R_below (by (with_reducible repeat (first | apply Kd.R_alloc | apply Kd.R_drewN | apply Kd.R_drew)); exact HO1031.out) hb); have n3_ := mkA (Kd.R_below (by (with_reducible repeat (first | apply Kd.R_alloc | apply Kd.R_drewN | apply Kd.R_drew)); exact HO1034.out) hb); have n4_ := mkA (Kd.R_lower (Kd.R_new' ho0 (Kd.R_lt (by (with_reducible repeat (first | apply Kd.R_alloc | apply Kd.R_drewN | apply Kd.R_drew)); exact HO1025.out))) (z18 (by repeat (first | (with_reducible first | exact HB.out | apply z11 | apply z10 | apply z12 | refine z15 ?_ GE1019.out) | exact HB.out)))); have n5_ := mkA (Kd.R_lower (Kd.R_new' ho1 (Kd.R_lt (by (with_reducible repeat (first | apply Kd.R_alloc | apply Kd.R_drewN | apply Kd.R_drew)); exact HO1028.out))) (z18 (by repeat (first | (with_reducible first | exact HB.out | apply z11 | apply z10 | apply z12 | refine z15 ?_ GE1019.out) | exact HB.out)))); have n6_ := mkA (blk_below (g := gb1019) (o := .cells #[.int .i64 a0_0, .slice A0_1 l0_1.length c0_1, .slice A0_2 l0_2.length c0_2] 25 (0, 0)) (by (with_reducible repeat (first | refine z16 ?_ _ | refine z27 ?_ | refine z24 ?_ _)); exact BK1019.out) hb); have n7_ := mkA (z17 (by repeat (first | (with_reducible first | exact HB.out | apply z11 | apply z10 | apply z12 | refine z15 ?_ GE1019.out) | exact HB.out)) hb); clear HO1025; clear HO1028; clear HO1031; clear HO1034; clear BK1019; clear HB; have HO1025 := n0_; have HO1028 := n1_; have HO1031 := n2_; have HO1034 := n3_; have HO1039 := n4_; have HO1042 := n5_; have BK1019 := n6_; have HB := n7_; clear n0_ n1_ n2_ n3_ n4_ n5_ n6_ n7_; (try clear hb); (try clear hb2); (try clear hk); (try clear hi); (try clear ho0); (try clear ho1)) | ((with_reducible refine z22 (f := 30) rfl ?_); refine goesL_ (some 30) rfl rfl Try.func30 (by kernel_rfl) rfl #[.slice A1 l1.length c1] rfl (by (try simp only [List.map_toArray, List.map_cons, List.map_nil]); first | done | rfl | (simp only [List.length_drop, List.length_take]; rfl)) ?_; (with_reducible refine (pl_list.calls _ _ l1 t1043 _ ?side1 ?side2 A18.out).mono ?_); (case side1 => repeat (first | exact (Kd.C_below HR1.out HB.out) | (with_reducible refine Kd.C_alloc ?_ _) | (with_reducible refine Kd.C_drewN ?_ _) | (with_reducible refine Kd.C_drew ?_))); (case side2 => exact HC1.out); rintro e w31 ⟨v1044, rfl, ho0, hb⟩; refine ⟨_, rfl, ?_⟩; have n0_ := mkA (Kd.R_below (by (with_reducible repeat (first | apply Kd.R_alloc | apply Kd.R_drewN | apply Kd.R_drew)); exact HO1025.out) hb); have n1_ := mkA (Kd.R_below (by (with_reducible repeat (first | apply Kd.R_alloc | apply Kd.R_drewN | apply Kd.R_drew)); exact HO1028.out) hb); have n2_ := mkA (Kd.R_elder' (by (with_reducible repeat (first | apply Kd.R_alloc | apply Kd.R_drewN | apply Kd.R_drew)); exact HO1031.out) (Kd.R_base ho0) hb); have n3_ := mkA (Kd.R_elder' (by (with_reducible repeat (first | apply Kd.R_alloc | apply Kd.R_drewN | apply Kd.R_drew)); exact HO1034.out) (Kd.R_base ho0) hb); have n4_ := mkA (Kd.R_below (by (with_reducible repeat (first | apply Kd.R_alloc | apply Kd.R_drewN | apply Kd.R_drew)); exact HO1039.out) hb); have n5_ := mkA (Kd.R_below (by (with_reducible repeat (first | apply Kd.R_alloc | apply Kd.R_drewN | apply Kd.R_drew)); exact HO1042.out) hb); have n6_ := mkA (Kd.R_lower (Kd.R_new' (Kd.R_new' ho0 (Kd.R_lt (by (with_reducible repeat (first | apply Kd.R_alloc | apply Kd.R_drewN | apply Kd.R_drew)); exact HO1031.out))) (Kd.R_lt (by (with_reducible repeat (first | apply Kd.R_alloc | apply Kd.R_drewN | apply Kd.R_drew)); exact HO1034.out))) (z18 (by repeat (first | (with_reducible first | exact HB.out | apply z11 | apply z10 | apply z12 | refine z15 ?_ GE1019.out) | exact HB.out)))); have n7_ := mkA (blk_below (g := gb1019) (o := .cells #[.int .i64 a0_0, .slice A0_1 l0_1.length c0_1, .slice A0_2 l0_2.length c0_2] 25 (0, 0)) (by (with_reducible repeat (first | refine z16 ?_ _ | refine z27 ?_ | refine z24 ?_ _)); exact BK1019.out) hb); have n8_ := mkA (z17 (by repeat (first | (with_reducible first | exact HB.out | apply z11 | apply z10 | apply z12 | refine z15 ?_ GE1019.out) | exact HB.out)) hb); clear HO1025; clear HO1028; clear HO1031; clear HO1034; clear HO1039; clear HO1042; clear BK1019; clear HB; have HO1025 := n0_; have HO1028 := n1_; have HO1031 := n2_; have HO1034 := n3_; have HO1039 := n4_; have HO1042 := n5_; have HO1045 := n6_; have BK1019 := n7_; have HB := n8_; clear n0_ n1_ n2_ n3_ n4_ n5_ n6_ n7_ n8_; (try clear hb); (try clear hb2); (try clear hk); (try clear hi); (try clear ho0); obtain ⟨Ao32, co32, eo32⟩ := Kd.R_slice HO1039.out; subst eo32; obtain ⟨Ao33, co33, eo33⟩ := Kd.R_slice HO1042.out; subst eo33; obtain ⟨Ao34, co34, eo34⟩ := Kd.R_slice HO1045.out; subst eo34) | ((with_reducible refine z22 (f := 64) rfl ?_); refine goesL_ (some 31) rfl rfl Try.func64 (by kernel_rfl) rfl #[.agg #[.int .i64 t1036, .slice Ao32 t1037.length co32, .slice Ao33 t1040.length co33], .slice Ao34 t1043.length co34] rfl (by (try simp only [List.map_toArray, List.map_cons, List.map_nil]); first | done | rfl | (simp only [List.length_drop, List.length_take]; rfl)) ?_; (with_reducible refine (soap_ProveTruth.calls t1036 _ _ t1037 _ _ t1040 _ _ t1043 t1046 _ ?side1 ?side2 ?side3 ?side4 ?side5 ?side6 A19.out).mono ?_); (case side1 => repeat (first | exact (Kd.R_reads' HO1039.out).2.2 | (with_reducible refine Kd.C_alloc ?_ _) | (with_reducible refine Kd.C_drewN ?_ _) | (with_reducible refine Kd.C_drew ?_))); (case side2 => exact (Kd.R_reads' HO1039.out).2.1); (case side3 => repeat (first | exact (Kd.R_reads' HO1042.out).2.2 | (with_reducible refine Kd.C_alloc ?_ _) | (with_reducible refine Kd.C_drewN ?_ _) | (with_reducible refine Kd.C_drew ?_))); (case side4 => exact (Kd.R_reads' HO1042.out).2.1); (case side5 => repeat (first | exact (Kd.R_reads' HO1045.out).2.2 | (with_reducible refine Kd.C_alloc ?_ _) | (with_reducible refine Kd.C_drewN ?_ _) | (with_reducible refine Kd.C_drew ?_))); (case side6 => exact (Kd.R_reads' HO1045.out).2.1); rintro e w35 ⟨rfl, hb⟩; refine ⟨_, rfl, ?_⟩; have n0_ := mkA (Kd.R_below (by (with_reducible repeat (first | apply Kd.R_alloc | apply Kd.R_drewN | apply Kd.R_drew)); exact HO1025.out) hb); have n1_ := mkA (Kd.R_below (by (with_reducible repeat (first | apply Kd.R_alloc | apply Kd.R_drewN | apply Kd.R_drew)); exact HO1028.out) hb); have n2_ := mkA (Kd.R_below (by (with_reducible repeat (first | apply Kd.R_alloc | apply Kd.R_drewN | apply Kd.R_drew)); exact HO1031.out) hb); have n3_ := mkA (Kd.R_below (by (with_reducible repeat (first | apply Kd.R_alloc | apply Kd.R_drewN | apply Kd.R_drew)); exact HO1034.out) hb); have n4_ := mkA (Kd.R_below (by (with_reducible repeat (first | apply Kd.R_alloc | apply Kd.R_drewN | apply Kd.R_drew)); exact HO1039.out) hb); have n5_ := mkA (Kd.R_below (by (with_reducible repeat (first | apply Kd.R_alloc | apply Kd.R_drewN | apply Kd.R_drew)); exact HO1042.out) hb); have n6_ := mkA (Kd.R_below (by (with_reducible repeat (first | apply Kd.R_alloc | apply Kd.R_drewN | apply Kd.R_drew)); exact HO1045.out) hb); have n7_ := mkA (blk_below (g := gb1019) (o := .cells #[.int .i64 a0_0, .slice A0_1 l0_1.length c0_1, .slice A0_2 l0_2.length c0_2] 25 (0, 0)) (by (with_reducible repeat (first | refine z16 ?_ _ | refine z27 ?_ | refine z24 ?_ _)); exact BK1019.out) hb); have n8_ := mkA (z17 (by repeat (first | (with_reducible first | exact HB.out | apply z11 | apply z10 | apply z12 | refine z15 ?_ GE1019.out) | exact HB.out)) hb); clear HO1025; clear HO1028; clear HO1031; clear HO1034; clear HO1039; clear HO1042; clear HO1045; clear BK1019; clear HB; have HO1025 := n0_; have HO1028 := n1_; have HO1031 := n2_; have HO1034 := n3_; have HO1039 := n4_; have HO1042 := n5_; have HO1045 := n6_; have BK1019 := n7_; have HB := n8_; clear n0_ n1_ n2_ n3_ n4_ n5_ n6_ n7_ n8_; (try clear hb); (try clear hb2); (try clear hk); (try clear hi); have hcz36_0 : w35.cell? ⟨gb1019, 0, none⟩ = some (.int .i64 a0_0) := (z13 BK1019.out 0).trans rfl; have hcz36_1 : w35.cell? ⟨gb1019, 1, none⟩ = some (.slice A0_1 l0_1.length c0_1) := (z13 BK1019.out 1).trans rfl; have hcz36_2 : w35.cell? ⟨gb1019, 2, none⟩ = some (.slice A0_2 l0_2.length c0_2) := (z13 BK1019.out 2).trans rfl; have hfz36_0 := z14 BK1019.out 0; have hfz36_1 := z14 BK1019.out 1; have hfz36_2 := z14 BK1019.out 2) | ((with_reducible refine z22 (f := 31) rfl ?_); refine goesL_ (some 33) rfl rfl Try.func31 (by kernel_rfl) rfl #[.agg #[.int .i64 a0_0, .slice A0_1 l0_1.length c0_1, .slice A0_2 l0_2.length c0_2]] rfl (by (try simp only [List.map_toArray, List.map_cons, List.map_nil]); first | done | rfl | (simp only [List.length_drop, List.length_take]; rfl)) ?_; (with_reducible refine (pl_fault.calls kj2 a0_0 _ _ l0_1 _ _ l0_2 t1047 _ ?side1 ?side2 ?side3 ?side4 A20.out).mono ?_); (case side1 => repeat (first | exact (Kd.C_below HR0_1.out HB.out) | (with_reducible refine Kd.C_alloc ?_ _) | (with_reducible refine Kd.C_drewN ?_ _) | (with_reducible refine Kd.C_drew ?_))); (case side2 => exact HC0_1.out); (case side3 => repeat (first | exact (Kd.C_below HR0_2.out HB.out) | (with_reducible refine Kd.C_alloc ?_ _) | (with_reducible refine Kd.C_drewN ?_ _) | (with_reducible refine Kd.C_drew ?_))); (case side4 => exact HC0_2.out); rintro e w37 ⟨rfl, hb⟩; refine ⟨_, rfl, ?_⟩; have n0_ := mkA (Kd.R_below (by (with_reducible repeat (first | apply Kd.R_alloc | apply Kd.R_drewN | apply Kd.R_drew)); exact HO1025.out) hb); have n1_ := mkA (Kd.R_below (by (with_reducible repeat (first | apply Kd.R_alloc | apply Kd.R_drewN | apply Kd.R_drew)); exact HO1028.out) hb); have n2_ := mkA (Kd.R_below (by (with_reducible repeat (first | apply Kd.R_alloc | apply Kd.R_drewN | apply Kd.R_drew)); exact HO1031.out) hb); have n3_ := mkA (Kd.R_below (by (with_reducible repeat (first | apply Kd.R_alloc | apply Kd.R_drewN | apply Kd.R_drew)); exact HO1034.out) hb); have n4_ := mkA (Kd.R_below (by (with_reducible repeat (first | apply Kd.R_alloc | apply Kd.R_drewN | apply Kd.R_drew)); exact HO1039.out) hb); have n5_ := mkA (Kd.R_below (by (with_reducible repeat (first | apply Kd.R_alloc | apply Kd.R_drewN | apply Kd.R_drew)); exact HO1042.out) hb); have n6_ := mkA (Kd.R_below (by (with_reducible repeat (first | apply Kd.R_alloc | apply Kd.R_drewN | apply Kd.R_drew)); exact HO1045.out) hb); have n7_ := mkA (blk_below (g := gb1019) (o := .cells #[.int .i64 a0_0, .slice A0_1 l0_1.length c0_1, .slice A0_2 l0_2.length c0_2] 25 (0, 0)) (by (with_reducible repeat (first | refine z16 ?_ _ | refine z27 ?_ | refine z24 ?_ _)); exact BK1019.out) hb); have n8_ := mkA (z17 (by repeat (first | (with_reducible first | exact HB.out | apply z11 | apply z10 | apply z12 | refine z15 ?_ GE1019.out) | exact HB.out)) hb); clear HO1025; clear HO1028; clear HO1031; clear HO1034; clear HO1039; clear HO1042; clear HO1045; clear BK1019; clear HB; have HO1025 := n0_; have HO1028 := n1_; have HO1031 := n2_; have HO1034 := n3_; have HO1039 := n4_; have HO1042 := n5_; have HO1045 := n6_; have BK1019 := n7_; have HB := n8_; clear n0_ n1_ n2_ n3_ n4_ n5_ n6_ n7_ n8_; (try clear hb); (try clear hb2); (try clear hk); (try clear hi)))
    (try simp only [Act.put, xq1, xq2, xq3])
    go_cut [49] (fun v49 wc => ∃ (kq : Nat) (x49_20 : Bool), v49 = .bool x49_20 ∧ Aside0 (pl_SoapPlays.j1 kq l1 t1032 t1035 t1047 x49_20 a0_0 l0_1 l0_2 = some r) ∧ Aside0 (kq ≤ kj2) ∧ Aside0 (Kd.R (Kd.int .i64) 3 wc w.heap.size (fun _ => True) v1033 t1032) ∧ Aside0 (wc.heap[gb1019]? = some (.cells #[.int .i64 a0_0, (.slice A0_1 l0_1.length c0_1), (.slice A0_2 l0_2.length c0_2)] 25 (0, 0))) ∧ Aside0 (Below w.heap.size w wc))
    case first =>
     have H := HC21.out
     clear HC21
     replace H := Option.bind_eq_some_iff.mp H
     obtain ⟨⟨t1048, t1049, t1052⟩, A380, H⟩ := H
     replace H : ((soap_CheckSlate.f t1048 t1049 t1052).bind fun t1055 => (if t1055 = t1047 then (if t1047 = 0 then ((pr_IsTruth.f kj2 a0_0 l0_1 l0_2 l1).bind fun t1056 => (pl_SoapPlays.j1 kj2 l1 t1032 t1035 t1047 (t1046 != t1056) a0_0 l0_1 l0_2)) else (pl_SoapPlays.j1 kj2 l1 t1032 t1035 t1047 (t1046 != false) a0_0 l0_1 l0_2)) else (pl_SoapPlays.j1 kj2 l1 t1032 t1035 t1047 true a0_0 l0_1 l0_2))) = some r := H
     have A38 := mkA A380
     clear A380
     replace H := Option.bind_eq_some_iff.mp H
     obtain ⟨t1055, A390, H⟩ := H
     replace H : (if t1055 = t1047 then (if t1047 = 0 then ((pr_IsTruth.f kj2 a0_0 l0_1 l0_2 l1).bind fun t1056 => (pl_SoapPlays.j1 kj2 l1 t1032 t1035 t1047 (t1046 != t1056) a0_0 l0_1 l0_2)) else (pl_SoapPlays.j1 kj2 l1 t1032 t1035 t1047 (t1046 != false) a0_0 l0_1 l0_2)) else (pl_SoapPlays.j1 kj2 l1 t1032 t1035 t1047 true a0_0 l0_1 l0_2)) = some r := H
     have A39 := mkA A390
     clear A390
     by_cases c40 : t1055 = t1047
     ·rw [if_pos c40] at H
      have c40b0 : (t1055 == t1047) = true := beq_iff_eq.mpr c40
      have c40b1 : (t1055 != t1047) = false := bne_eq_false_iff_eq.mpr c40
      clear c40
      (first | rw [c40b0] | (simp only [i64_w, i32_w]; rw [c40b0]) | skip)
      by_cases c41 : t1047 = 0
      ·rw [if_pos c41] at H
       have c41b0 : (t1047 == 0) = true := beq_iff_eq.mpr c41
       have c41b1 : (t1047 != 0) = false := bne_eq_false_iff_eq.mpr c41
       clear c41
       replace H := Option.bind_eq_some_iff.mp H
       obtain ⟨t1056, A420, H⟩ := H
       replace H : (pl_SoapPlays.j1 kj2 l1 t1032 t1035 t1047 (t1046 != t1056) a0_0 l0_1 l0_2) = some r := H
       have A42 := mkA A420
       clear A420
       have H' := mkA H
       clear H
       have hcz43_0 : w37.cell? ⟨gb1019, 0, none⟩ = some (.int .i64 a0_0) := (z13 BK1019.out 0).trans rfl
       have hcz43_1 : w37.cell? ⟨gb1019, 1, none⟩ = some (.slice A0_1 l0_1.length c0_1) := (z13 BK1019.out 1).trans rfl
       have hcz43_2 : w37.cell? ⟨gb1019, 2, none⟩ = some (.slice A0_2 l0_2.length c0_2) := (z13 BK1019.out 2).trans rfl
       have hfz43_0 := z14 BK1019.out 0
       have hfz43_1 := z14 BK1019.out 1
       have hfz43_2 := z14 BK1019.out 2
       go_wp2_with (first | ((with_reducible refine z22 (f := 23) rfl ?_); refine goesL_ (some 35) rfl rfl Try.func23 (by kernel_rfl) rfl #[.agg #[.int .i64 a0_0, .slice A0_1 l0_1.length c0_1, .slice A0_2 l0_2.length c0_2]] rfl (by (try simp only [List.map_toArray, List.map_cons, List.map_nil]); first | done | rfl | (simp only [List.length_drop, List.length_take]; rfl)) ?_; (with_reducible refine (pl_Slate.calls kj2 a0_0 _ _ l0_1 _ _ l0_2 t1048 t1049 t1052 _ ?side1 ?side2 ?side3 ?side4 A38.out).mono ?_); (case side1 => repeat (first | exact (Kd.C_below HR0_1.out HB.out) | (with_reducible refine Kd.C_alloc ?_ _) | (with_reducible refine Kd.C_drewN ?_ _) | (with_reducible refine Kd.C_drew ?_))); (case side2 => exact HC0_1.out); (case side3 => repeat (first | exact (Kd.C_below HR0_2.out HB.out) | (with_reducible refine Kd.C_alloc ?_ _) | (with_reducible refine Kd.C_drewN ?_ _) | (with_reducible refine Kd.C_drew ?_))); (case side4 => exact HC0_2.out); rintro e w44 ⟨v1050, v1053, rfl, ho0, ho1, hb⟩; refine ⟨_, rfl, ?_⟩; have n0_ := mkA (Kd.R_elder' (by (with_reducible repeat (first | apply Kd.R_alloc | apply Kd.R_drewN | apply Kd.R_drew)); exact HO1025.out) (Kd.R_base ho0) hb); have n1_ := mkA (Kd.R_elder' (by (with_reducible repeat (first | apply Kd.R_alloc | apply Kd.R_drewN | apply Kd.R_drew)); exact HO1028.out) (Kd.R_base ho1) hb); have n2_ := mkA (Kd.R_below (by (with_reducible repeat (first | apply Kd.R_alloc | apply Kd.R_drewN | apply Kd.R_drew)); exact HO1031.out) hb); have n3_ := mkA (Kd.R_below (by (with_reducible repeat (first | apply Kd.R_alloc | apply Kd.R_drewN | apply Kd.R_drew)); exact HO1034.out) hb); have n4_ := mkA (Kd.R_elder' (by (with_reducible repeat (first | apply Kd.R_alloc | apply Kd.R_drewN | apply Kd.R_drew)); exact HO1039.out) (Kd.R_base ho0) hb); have n5_ := mkA (Kd.R_elder' (by (with_reducible repeat (first | apply Kd.R_alloc | apply Kd.R_drewN | apply Kd.R_drew)); exact HO1042.out) (Kd.R_base ho1) hb); have n6_ := mkA (Kd.R_below (by (with_reducible repeat (first | apply Kd.R_alloc | apply Kd.R_drewN | apply Kd.R_drew)); exact HO1045.out) hb); have n7_ := mkA (Kd.R_lower (Kd.R_new' (Kd.R_new' ho0 (Kd.R_lt (by (with_reducible repeat (first | apply Kd.R_alloc | apply Kd.R_drewN | apply Kd.R_drew)); exact HO1025.out))) (Kd.R_lt (by (with_reducible repeat (first | apply Kd.R_alloc | apply Kd.R_drewN | apply Kd.R_drew)); exact HO1039.out))) (z18 (by repeat (first | (with_reducible first | exact HB.out | apply z11 | apply z10 | apply z12 | refine z15 ?_ GE1019.out) | exact HB.out)))); have n8_ := mkA (Kd.R_lower (Kd.R_new' (Kd.R_new' ho1 (Kd.R_lt (by (with_reducible repeat (first | apply Kd.R_alloc | apply Kd.R_drewN | apply Kd.R_drew)); exact HO1028.out))) (Kd.R_lt (by (with_reducible repeat (first | apply Kd.R_alloc | apply Kd.R_drewN | apply Kd.R_drew)); exact HO1042.out))) (z18 (by repeat (first | (with_reducible first | exact HB.out | apply z11 | apply z10 | apply z12 | refine z15 ?_ GE1019.out) | exact HB.out)))); have n9_ := mkA (blk_below (g := gb1019) (o := .cells #[.int .i64 a0_0, .slice A0_1 l0_1.length c0_1, .slice A0_2 l0_2.length c0_2] 25 (0, 0)) (by (with_reducible repeat (first | refine z16 ?_ _ | refine z27 ?_ | refine z24 ?_ _)); exact BK1019.out) hb); have n10_ := mkA (z17 (by repeat (first | (with_reducible first | exact HB.out | apply z11 | apply z10 | apply z12 | refine z15 ?_ GE1019.out) | exact HB.out)) hb); clear HO1025; clear HO1028; clear HO1031; clear HO1034; clear HO1039; clear HO1042; clear HO1045; clear BK1019; clear HB; have HO1025 := n0_; have HO1028 := n1_; have HO1031 := n2_; have HO1034 := n3_; have HO1039 := n4_; have HO1042 := n5_; have HO1045 := n6_; have HO1051 := n7_; have HO1054 := n8_; have BK1019 := n9_; have HB := n10_; clear n0_ n1_ n2_ n3_ n4_ n5_ n6_ n7_ n8_ n9_ n10_; (try clear hb); (try clear hb2); (try clear hk); (try clear hi); (try clear ho0); (try clear ho1); obtain ⟨Ao45, co45, eo45⟩ := Kd.R_slice HO1051.out; subst eo45; obtain ⟨Ao46, co46, eo46⟩ := Kd.R_slice HO1054.out; subst eo46) | ((with_reducible refine z22 (f := 65) rfl ?_); refine goesL_ (some 36) rfl rfl Try.func65 (by kernel_rfl) rfl #[.agg #[.int .i64 t1048, .slice Ao45 t1049.length co45, .slice Ao46 t1052.length co46]] rfl (by (try simp only [List.map_toArray, List.map_cons, List.map_nil]); first | done | rfl | (simp only [List.length_drop, List.length_take]; rfl)) ?_; (with_reducible refine (soap_CheckSlate.calls t1048 _ _ t1049 _ _ t1052 t1055 _ ?side1 ?side2 ?side3 ?side4 A39.out).mono ?_); (case side1 => repeat (first | exact (Kd.R_reads' HO1051.out).2.2 | (with_reducible refine Kd.C_alloc ?_ _) | (with_reducible refine Kd.C_drewN ?_ _) | (with_reducible refine Kd.C_drew ?_))); (case side2 => exact (Kd.R_reads' HO1051.out).2.1); (case side3 => repeat (first | exact (Kd.R_reads' HO1054.out).2.2 | (with_reducible refine Kd.C_alloc ?_ _) | (with_reducible refine Kd.C_drewN ?_ _) | (with_reducible refine Kd.C_drew ?_))); (case side4 => exact (Kd.R_reads' HO1054.out).2.1); rintro e w47 ⟨rfl, hb⟩; refine ⟨_, rfl, ?_⟩; have n0_ := mkA (Kd.R_below (by (with_reducible repeat (first | apply Kd.R_alloc | apply Kd.R_drewN | apply Kd.R_drew)); exact HO1025.out) hb); have n1_ := mkA (Kd.R_below (by (with_reducible repeat (first | apply Kd.R_alloc | apply Kd.R_drewN | apply Kd.R_drew)); exact HO1028.out) hb); have n2_ := mkA (Kd.R_below (by (with_reducible repeat (first | apply Kd.R_alloc | apply Kd.R_drewN | apply Kd.R_drew)); exact HO1031.out) hb); have n3_ := mkA (Kd.R_below (by (with_reducible repeat (first | apply Kd.R_alloc | apply Kd.R_drewN | apply Kd.R_drew)); exact HO1034.out) hb); have n4_ := mkA (Kd.R_below (by (with_reducible repeat (first | apply Kd.R_alloc | apply Kd.R_drewN | apply Kd.R_drew)); exact HO1039.out) hb); have n5_ := mkA (Kd.R_below (by (with_reducible repeat (first | apply Kd.R_alloc | apply Kd.R_drewN | apply Kd.R_drew)); exact HO1042.out) hb); have n6_ := mkA (Kd.R_below (by (with_reducible repeat (first | apply Kd.R_alloc | apply Kd.R_drewN | apply Kd.R_drew)); exact HO1045.out) hb); have n7_ := mkA (Kd.R_below (by (with_reducible repeat (first | apply Kd.R_alloc | apply Kd.R_drewN | apply Kd.R_drew)); exact HO1051.out) hb); have n8_ := mkA (Kd.R_below (by (with_reducible repeat (first | apply Kd.R_alloc | apply Kd.R_drewN | apply Kd.R_drew)); exact HO1054.out) hb); have n9_ := mkA (blk_below (g := gb1019) (o := .cells #[.int .i64 a0_0, .slice A0_1 l0_1.length c0_1, .slice A0_2 l0_2.length c0_2] 25 (0, 0)) (by (with_reducible repeat (first | refine z16 ?_ _ | refine z27 ?_ | refine z24 ?_ _)); exact BK1019.out) hb); have n10_ := mkA (z17 (by repeat (first | (with_reducible first | exact HB.out | apply z11 | apply z10 | apply z12 | refine z15 ?_ GE1019.out) | exact HB.out)) hb); clear HO1025; clear HO1028; clear HO1031; clear HO1034; clear HO1039; clear HO1042; clear HO1045; clear HO1051; clear HO1054; clear BK1019; clear HB; have HO1025 := n0_; have HO1028 := n1_; have HO1031 := n2_; have HO1034 := n3_; have HO1039 := n4_; have HO1042 := n5_; have HO1045 := n6_; have HO1051 := n7_; have HO1054 := n8_; have BK1019 := n9_; have HB := n10_; clear n0_ n1_ n2_ n3_ n4_ n5_ n6_ n7_ n8_ n9_ n10_; (try clear hb); (try clear hb2); (try clear hk); (try clear hi); have hcz48_0 : w47.cell? ⟨gb1019, 0, none⟩ = some (.int .i64 a0_0) := (z13 BK1019.out 0).trans rfl; have hcz48_1 : w47.cell? ⟨gb1019, 1, none⟩ = some (.slice A0_1 l0_1.length c0_1) := (z13 BK1019.out 1).trans rfl; have hcz48_2 : w47.cell? ⟨gb1019, 2, none⟩ = some (.slice A0_2 l0_2.length c0_2) := (z13 BK1019.out 2).trans rfl; have hfz48_0 := z14 BK1019.out 0; have hfz48_1 := z14 BK1019.out 1; have hfz48_2 := z14 BK1019.out 2) | (go_at_call 66; (with_reducible refine (pr_IsTruth.calls kj2 a0_0 _ _ l0_1 _ _ l0_2 _ _ l1 t1056 _ ?side1 ?side2 ?side3 ?side4 ?side5 ?side6 A42.out).mono ?_); (case side1 => repeat (first | exact (Kd.C_below HR0_1.out HB.out) | (with_reducible refine Kd.C_alloc ?_ _) | (with_reducible refine Kd.C_drewN ?_ _) | (with_reducible refine Kd.C_drew ?_))); (case side2 => exact HC0_1.out); (case side3 => repeat (first | exact (Kd.C_below HR0_2.out HB.out) | (with_reducible refine Kd.C_alloc ?_ _) | (with_reducible refine Kd.C_drewN ?_ _) | (with_reducible refine Kd.C_drew ?_))); (case side4 => exact HC0_2.out); (case side5 => repeat (first | exact (Kd.C_below HR1.out HB.out) | (with_reducible refine Kd.C_alloc ?_ _) | (with_reducible refine Kd.C_drewN ?_ _) | (with_reducible refine Kd.C_drew ?_))); (case side6 => exact HC1.out); rintro e w49 ⟨rfl, hb⟩; have n0_ := mkA (Kd.R_below (by (with_reducible repeat (first | apply Kd.R_alloc | apply Kd.R_drewN | apply Kd.R_drew)); exact HO1025.out) hb); have n1_ := mkA (Kd.R_below (by (with_reducible repeat (first | apply Kd.R_alloc | apply Kd.R_drewN | apply Kd.R_drew)); exact HO1028.out) hb); have n2_ := mkA (Kd.R_below (by (with_reducible repeat (first | apply Kd.R_alloc | apply Kd.R_drewN | apply Kd.R_drew)); exact HO1031.out) hb); have n3_ := mkA (Kd.R_below (by (with_reducible repeat (first | apply Kd.R_alloc | apply Kd.R_drewN | apply Kd.R_drew)); exact HO1034.out) hb); have n4_ := mkA (Kd.R_below (by (with_reducible repeat (first | apply Kd.R_alloc | apply Kd.R_drewN | apply Kd.R_drew)); exact HO1039.out) hb); have n5_ := mkA (Kd.R_below (by (with_reducible repeat (first | apply Kd.R_alloc | apply Kd.R_drewN | apply Kd.R_drew)); exact HO1042.out) hb); have n6_ := mkA (Kd.R_below (by (with_reducible repeat (first | apply Kd.R_alloc | apply Kd.R_drewN | apply Kd.R_drew)); exact HO1045.out) hb); have n7_ := mkA (Kd.R_below (by (with_reducible repeat (first | apply Kd.R_alloc | apply Kd.R_drewN | apply Kd.R_drew)); exact HO1051.out) hb); have n8_ := mkA (Kd.R_below (by (with_reducible repeat (first | apply Kd.R_alloc | apply Kd.R_drewN | apply Kd.R_drew)); exact HO1054.out) hb); have n9_ := mkA (blk_below (g := gb1019) (o := .cells #[.int .i64 a0_0, .slice A0_1 l0_1.length c0_1, .slice A0_2 l0_2.length c0_2] 25 (0, 0)) (by (with_reducible repeat (first | refine z16 ?_ _ | refine z27 ?_ | refine z24 ?_ _)); exact BK1019.out) hb); have n10_ := mkA (z17 (by repeat (first | (with_reducible first | exact HB.out | apply z11 | apply z10 | apply z12 | refine z15 ?_ GE1019.out) | exact HB.out)) hb); clear HO1025; clear HO1028; clear HO1031; clear HO1034; clear HO1039; clear HO1042; clear HO1045; clear HO1051; clear HO1054; clear BK1019; clear HB; have HO1025 := n0_; have HO1028 := n1_; have HO1031 := n2_; have HO1034 := n3_; have HO1039 := n4_; have HO1042 := n5_; have HO1045 := n6_; have HO1051 := n7_; have HO1054 := n8_; have BK1019 := n9_; have HB := n10_; clear n0_ n1_ n2_ n3_ n4_ n5_ n6_ n7_ n8_ n9_ n10_; (try clear hb); (try clear hb2); (try clear hk); (try clear hi)))
       go_meet
       case rel => exact ⟨_, ((t1046 != t1056)), (by first | rfl | (simp; done) | (simp [*]; done)), H', ⟨by have := HJ2.out; first | omega | exact Nat.le_refl _⟩, ⟨by (with_reducible repeat (first | apply Kd.R_alloc | apply Kd.R_drewN | apply Kd.R_drew)); exact Kd.R_mono HO1034.out (fun _ hk => trivial)⟩, ⟨by (with_reducible repeat (first | refine z16 ?_ _ | refine z27 ?_ | refine z24 ?_ _)); exact BK1019.out⟩, ⟨by repeat (first | (with_reducible first | exact HB.out | apply z11 | apply z10 | apply z12 | refine z15 ?_ GE1019.out) | exact HB.out)⟩⟩
      ·rw [if_neg c41] at H
       have c41b0 : (t1047 == 0) = false := beq_eq_false_iff_ne.mpr c41
       have c41b1 : (t1047 != 0) = true := bne_iff_ne.mpr c41
       have H' := mkA H
       clear H
       have hcz50_0 : w37.cell? ⟨gb1019, 0, none⟩ = some (.int .i64 a0_0) := (z13 BK1019.out 0).trans rfl
       have hcz50_1 : w37.cell? ⟨gb1019, 1, none⟩ = some (.slice A0_1 l0_1.length c0_1) := (z13 BK1019.out 1).trans rfl
       have hcz50_2 : w37.cell? ⟨gb1019, 2, none⟩ = some (.slice A0_2 l0_2.length c0_2) := (z13 BK1019.out 2).trans rfl
       have hfz50_0 := z14 BK1019.out 0
       have hfz50_1 := z14 BK1019.out 1
       have hfz50_2 := z14 BK1019.out 2
       go_wp2_with (first | ((with_reducible refine z22 (f := 23) rfl ?_); refine goesL_ (some 35) rfl rfl Try.func23 (by kernel_rfl) rfl #[.agg #[.int .i64 a0_0, .slice A0_1 l0_1.length c0_1, .slice A0_2 l0_2.length c0_2]] rfl (by (try simp only [List.map_toArray, List.map_cons, List.map_nil]); first | done | rfl | (simp only [List.length_drop, List.length_take]; rfl)) ?_; (with_reducible refine (pl_Slate.calls kj2 a0_0 _ _ l0_1 _ _ l0_2 t1048 t1049 t1052 _ ?side1 ?side2 ?side3 ?side4 A38.out).mono ?_); (case side1 => repeat (first | exact (Kd.C_below HR0_1.out HB.out) | (with_reducible refine Kd.C_alloc ?_ _) | (with_reducible refine Kd.C_drewN ?_ _) | (with_reducible refine Kd.C_drew ?_))); (case side2 => exact HC0_1.out); (case side3 => repeat (first | exact (Kd.C_below HR0_2.out HB.out) | (with_reducible refine Kd.C_alloc ?_ _) | (with_reducible refine Kd.C_drewN ?_ _) | (with_reducible refine Kd.C_drew ?_))); (case side4 => exact HC0_2.out); rintro e w51 ⟨v1050, v1053, rfl, ho0, ho1, hb⟩; refine ⟨_, rfl, ?_⟩; have n0_ := mkA (Kd.R_elder' (by (with_reducible repeat (first | apply Kd.R_alloc | apply Kd.R_drewN | apply Kd.R_drew)); exact HO1025.out) (Kd.R_base ho0) hb); have n1_ := mkA (Kd.R_elder' (by (with_reducible repeat (first | apply Kd.R_alloc | apply Kd.R_drewN | apply Kd.R_drew)); exact HO1028.out) (Kd.R_base ho1) hb); have n2_ := mkA (Kd.R_below (by (with_reducible repeat (first | apply Kd.R_alloc | apply Kd.R_drewN | apply Kd.R_drew)); exact HO1031.out) hb); have n3_ := mkA (Kd.R_below (by (with_reducible repeat (first | apply Kd.R_alloc | apply Kd.R_drewN | apply Kd.R_drew)); exact HO1034.out) hb); have n4_ := mkA (Kd.R_elder' (by (with_reducible repeat (first | apply Kd.R_alloc | apply Kd.R_drewN | apply Kd.R_drew)); exact HO1039.out) (Kd.R_base ho0) hb); have n5_ := mkA (Kd.R_elder' (by (with_reducible repeat (first | apply Kd.R_alloc | apply Kd.R_drewN | apply Kd.R_drew)); exact HO1042.out) (Kd.R_base ho1) hb); have n6_ := mkA (Kd.R_below (by (with_reducible repeat (first | apply Kd.R_alloc | apply Kd.R_drewN | apply Kd.R_drew)); exact HO1045.out) hb); have n7_ := mkA (Kd.R_lower (Kd.R_new' (Kd.R_new' ho0 (Kd.R_lt (by (with_reducible repeat (first | apply Kd.R_alloc | apply Kd.R_drewN | apply Kd.R_drew)); exact HO1025.out))) (Kd.R_lt (by (with_reducible repeat (first | apply Kd.R_alloc | apply Kd.R_drewN | apply Kd.R_drew)); exact HO1039.out))) (z18 (by repeat (first | (with_reducible first | exact HB.out | apply z11 | apply z10 | apply z12 | refine z15 ?_ GE1019.out) | exact HB.out)))); have n8_ := mkA (Kd.R_lower (Kd.R_new' (Kd.R_new' ho1 (Kd.R_lt (by (with_reducible repeat (first | apply Kd.R_alloc | apply Kd.R_drewN | apply Kd.R_drew)); exact HO1028.out))) (Kd.R_lt (by (with_reducible repeat (first | apply Kd.R_alloc | apply Kd.R_drewN | apply Kd.R_drew)); exact HO1042.out))) (z18 (by repeat (first | (with_reducible first | exact HB.out | apply z11 | apply z10 | apply z12 | refine z15 ?_ GE1019.out) | exact HB.out)))); have n9_ := mkA (blk_below (g := gb1019) (o := .cells #[.int .i64 a0_0, .slice A0_1 l0_1.length c0_1, .slice A0_2 l0_2.length c0_2] 25 (0, 0)) (by (with_reducible repeat (first | refine z16 ?_ _ | refine z27 ?_ | refine z24 ?_ _)); exact BK1019.out) hb); have n10_ := mkA (z17 (by repeat (first | (with_reducible first | exact HB.out | apply z11 | apply z10 | apply z12 | refine z15 ?_ GE1019.out) | exact HB.out)) hb); clear HO1025; clear HO1028; clear HO1031; clear HO1034; clear HO1039; clear HO1042; clear HO1045; clear BK1019; clear HB; have HO1025 := n0_; have HO1028 := n1_; have HO1031 := n2_; have HO1034 := n3_; have HO1039 := n4_; have HO1042 := n5_; have HO1045 := n6_; have HO1051 := n7_; have HO1054 := n8_; have BK1019 := n9_; have HB := n10_; clear n0_ n1_ n2_ n3_ n4_ n5_ n6_ n7_ n8_ n9_ n10_; (try clear hb); (try clear hb2); (try clear hk); (try clear hi); (try clear ho0); (try clear ho1); obtain ⟨Ao52, co52, eo52⟩ := Kd.R_slice HO1051.out; subst eo52; obtain ⟨Ao53, co53, eo53⟩ := Kd.R_slice HO1054.out; subst eo53) | ((with_reducible refine z22 (f := 65) rfl ?_); refine goesL_ (some 36) rfl rfl Try.func65 (by kernel_rfl) rfl #[.agg #[.int .i64 t1048, .slice Ao52 t1049.length co52, .slice Ao53 t1052.length co53]] rfl (by (try simp only [List.map_toArray, List.map_cons, List.map_nil]); first | done | rfl | (simp only [List.length_drop, List.length_take]; rfl)) ?_; (with_reducible refine (soap_CheckSlate.calls t1048 _ _ t1049 _ _ t1052 t1055 _ ?side1 ?side2 ?side3 ?side4 A39.out).mono ?_); (case side1 => repeat (first | exact (Kd.R_reads' HO1051.out).2.2 | (with_reducible refine Kd.C_alloc ?_ _) | (with_reducible refine Kd.C_drewN ?_ _) | (with_reducible refine Kd.C_drew ?_))); (case side2 => exact (Kd.R_reads' HO1051.out).2.1); (case side3 => repeat (first | exact (Kd.R_reads' HO1054.out).2.2 | (with_reducible refine Kd.C_alloc ?_ _) | (with_reducible refine Kd.C_drewN ?_ _) | (with_reducible refine Kd.C_drew ?_))); (case side4 => exact (Kd.R_reads' HO1054.out).2.1); rintro e w54 ⟨rfl, hb⟩; refine ⟨_, rfl, ?_⟩; have n0_ := mkA (Kd.R_below (by (with_reducible repeat (first | apply Kd.R_alloc | apply Kd.R_drewN | apply Kd.R_drew)); exact HO1025.out) hb); have n1_ := mkA (Kd.R_below (by (with_reducible repeat (first | apply Kd.R_alloc | apply Kd.R_drewN | apply Kd.R_drew)); exact HO1028.out) hb); have n2_ := mkA (Kd.R_below (by (with_reducible repeat (first | apply Kd.R_alloc | apply Kd.R_drewN | apply Kd.R_drew)); exact HO1031.out) hb); have n3_ := mkA (Kd.R_below (by (with_reducible repeat (first | apply Kd.R_alloc | apply Kd.R_drewN | apply Kd.R_drew)); exact HO1034.out) hb); have n4_ := mkA (Kd.R_below (by (with_reducible repeat (first | apply Kd.R_alloc | apply Kd.R_drewN | apply Kd.R_drew)); exact HO1039.out) hb); have n5_ := mkA (Kd.R_below (by (with_reducible repeat (first | apply Kd.R_alloc | apply Kd.R_drewN | apply Kd.R_drew)); exact HO1042.out) hb); have n6_ := mkA (Kd.R_below (by (with_reducible repeat (first | apply Kd.R_alloc | apply Kd.R_drewN | apply Kd.R_drew)); exact HO1045.out) hb); have n7_ := mkA (Kd.R_below (by (with_reducible repeat (first | apply Kd.R_alloc | apply Kd.R_drewN | apply Kd.R_drew)); exact HO1051.out) hb); have n8_ := mkA (Kd.R_below (by (with_reducible repeat (first | apply Kd.R_alloc | apply Kd.R_drewN | apply Kd.R_drew)); exact HO1054.out) hb); have n9_ := mkA (blk_below (g := gb1019) (o := .cells #[.int .i64 a0_0, .slice A0_1 l0_1.length c0_1, .slice A0_2 l0_2.length c0_2] 25 (0, 0)) (by (with_reducible repeat (first | refine z16 ?_ _ | refine z27 ?_ | refine z24 ?_ _)); exact BK1019.out) hb); have n10_ := mkA (z17 (by repeat (first | (with_reducible first | exact HB.out | apply z11 | apply z10 | apply z12 | refine z15 ?_ GE1019.out) | exact HB.out)) hb); clear HO1025; clear HO1028; clear HO1031; clear HO1034; clear HO1039; clear HO1042; clear HO1045; clear HO1051; clear HO1054; clear BK1019; clear HB; have HO1025 := n0_; have HO1028 := n1_; have HO1031 := n2_; have HO1034 := n3_; have HO1039 := n4_; have HO1042 := n5_; have HO1045 := n6_; have HO1051 := n7_; have HO1054 := n8_; have BK1019 := n9_; have HB := n10_; clear n0_ n1_ n2_ n3_ n4_ n5_ n6_ n7_ n8_ n9_ n10_; (try clear hb); (try clear hb2); (try clear hk); (try clear hi)))
       go_meet
       case rel => exact ⟨_, ((t1046 != false)), (by first | rfl | (simp; done) | (simp [*]; done)), H', ⟨by have := HJ2.out; first | omega | exact Nat.le_refl _⟩, ⟨by (with_reducible repeat (first | apply Kd.R_alloc | apply Kd.R_drewN | apply Kd.R_drew)); exact Kd.R_mono HO1034.out (fun _ hk => trivial)⟩, ⟨by (with_reducible repeat (first | refine z16 ?_ _ | refine z27 ?_ | refine z24 ?_ _)); exact BK1019.out⟩, ⟨by repeat (first | (with_reducible first | exact HB.out | apply z11 | apply z10 | apply z12 | refine z15 ?_ GE1019.out) | exact HB.out)⟩⟩
     ·rw [if_neg c40] at H
      have c40b0 : (t1055 == t1047) = false := beq_eq_false_iff_ne.mpr c40
      have c40b1 : (t1055 != t1047) = true := bne_iff_ne.mpr c40
      (first | rw [c40b0] | (simp only [i64_w, i32_w]; rw [c40b0]) | skip)
      have H' := mkA H
      clear H
      have hcz55_0 : w37.cell? ⟨gb1019, 0, none⟩ = some (.int .i64 a0_0) := (z13 BK1019.out 0).trans rfl
      have hcz55_1 : w37.cell? ⟨gb1019, 1, none⟩ = some (.slice A0_1 l0_1.length c0_1) := (z13 BK1019.out 1).trans rfl
      have hcz55_2 : w37.cell? ⟨gb1019, 2, none⟩ = some (.slice A0_2 l0_2.length c0_2) := (z13 BK1019.out 2).trans rfl
      have hfz55_0 := z14 BK1019.out 0
      have hfz55_1 := z14 BK1019.out 1
      have hfz55_2 := z14 BK1019.out 2
      go_wp2_with (first | ((with_reducible refine z22 (f := 23) rfl ?_); refine goesL_ (some 35) rfl rfl Try.func23 (by kernel_rfl) rfl #[.agg #[.int .i64 a0_0, .slice A0_1 l0_1.length c0_1, .slice A0_2 l0_2.length c0_2]] rfl (by (try simp only [List.map_toArray, List.map_cons, List.map_nil]); first | done | rfl | (simp only [List.length_drop, List.length_take]; rfl)) ?_; (with_reducible refine (pl_Slate.calls kj2 a0_0 _ _ l0_1 _ _ l0_2 t1048 t1049 t1052 _ ?side1 ?side2 ?side3 ?side4 A38.out).mono ?_); (case side1 => repeat (first | exact (Kd.C_below HR0_1.out HB.out) | (with_reducible refine Kd.C_alloc ?_ _) | (with_reducible refine Kd.C_drewN ?_ _) | (with_reducible refine Kd.C_drew ?_))); (case side2 => exact HC0_1.out); (case side3 => repeat (first | exact (Kd.C_below HR0_2.out HB.out) | (with_reducible refine Kd.C_alloc ?_ _) | (with_reducible refine Kd.C_drewN ?_ _) | (with_reducible refine Kd.C_drew ?_))); (case side4 => exact HC0_2.out); rintro e w56 ⟨v1050, v1053, rfl, ho0, ho1, hb⟩; refine ⟨_, rfl, ?_⟩; have n0_ := mkA (Kd.R_elder' (by (with_reducible repeat (first | apply Kd.R_alloc | apply Kd.R_drewN | apply Kd.R_drew)); exact HO1025.out) (Kd.R_base ho0) hb); have n1_ := mkA (Kd.R_elder' (by (with_reducible repeat (first | apply Kd.R_alloc | apply Kd.R_drewN | apply Kd.R_drew)); exact HO1028.out) (Kd.R_base ho1) hb); have n2_ := mkA (Kd.R_below (by (with_reducible repeat (first | apply Kd.R_alloc | apply Kd.R_drewN | apply Kd.R_drew)); exact HO1031.out) hb); have n3_ := mkA (Kd.R_below (by (with_reducible repeat (first | apply Kd.R_alloc | apply Kd.R_drewN | apply Kd.R_drew)); exact HO1034.out) hb); have n4_ := mkA (Kd.R_elder' (by (with_reducible repeat (first | apply Kd.R_alloc | apply Kd.R_drewN | apply Kd.R_drew)); exact HO1039.out) (Kd.R_base ho0) hb); have n5_ := mkA (Kd.R_elder' (by (with_reducible repeat (first | apply Kd.R_alloc | apply Kd.R_drewN | apply Kd.R_drew)); exact HO1042.out) (Kd.R_base ho1) hb); have n6_ := mkA (Kd.R_below (by (with_reducible repeat (first | apply Kd.R_alloc | apply Kd.R_drewN | apply Kd.R_drew)); exact HO1045.out) hb); have n7_ := mkA (Kd.R_lower (Kd.R_new' (Kd.R_new' ho0 (Kd.R_lt (by (with_reducible repeat (first | apply Kd.R_alloc | apply Kd.R_drewN | apply Kd.R_drew)); exact HO1025.out))) (Kd.R_lt (by (with_reducible repeat (first | apply Kd.R_alloc | apply Kd.R_drewN | apply Kd.R_drew)); exact HO1039.out))) (z18 (by repeat (first | (with_reducible first | exact HB.out | apply z11 | apply z10 | apply z12 | refine z15 ?_ GE1019.out) | exact HB.out)))); have n8_ := mkA (Kd.R_lower (Kd.R_new' (Kd.R_new' ho1 (Kd.R_lt (by (with_reducible repeat (first | apply Kd.R_alloc | apply Kd.R_drewN | apply Kd.R_drew)); exact HO1028.out))) (Kd.R_lt (by (with_reducible repeat (first | apply Kd.R_alloc | apply Kd.R_drewN | apply Kd.R_drew)); exact HO1042.out))) (z18 (by repeat (first | (with_reducible first | exact HB.out | apply z11 | apply z10 | apply z12 | refine z15 ?_ GE1019.out) | exact HB.out)))); have n9_ := mkA (blk_below (g := gb1019) (o := .cells #[.int .i64 a0_0, .slice A0_1 l0_1.length c0_1, .slice A0_2 l0_2.length c0_2] 25 (0, 0)) (by (with_reducible repeat (first | refine z16 ?_ _ | refine z27 ?_ | refine z24 ?_ _)); exact BK1019.out) hb); have n10_ := mkA (z17 (by repeat (first | (with_reducible first | exact HB.out | apply z11 | apply z10 | apply z12 | refine z15 ?_ GE1019.out) | exact HB.out)) hb); clear HO1025; clear HO1028; clear HO1031; clear HO1034; clear HO1039; clear HO1042; clear HO1045; clear BK1019; clear HB; have HO1025 := n0_; have HO1028 := n1_; have HO1031 := n2_; have HO1034 := n3_; have HO1039 := n4_; have HO1042 := n5_; have HO1045 := n6_; have HO1051 := n7_; have HO1054 := n8_; have BK1019 := n9_; have HB := n10_; clear n0_ n1_ n2_ n3_ n4_ n5_ n6_ n7_ n8_ n9_ n10_; (try clear hb); (try clear hb2); (try clear hk); (try clear hi); (try clear ho0); (try clear ho1); obtain ⟨Ao57, co57, eo57⟩ := Kd.R_slice HO1051.out; subst eo57; obtain ⟨Ao58, co58, eo58⟩ := Kd.R_slice HO1054.out; subst eo58) | ((with_reducible refine z22 (f := 65) rfl ?_); refine goesL_ (some 36) rfl rfl Try.func65 (by kernel_rfl) rfl #[.agg #[.int .i64 t1048, .slice Ao57 t1049.length co57, .slice Ao58 t1052.length co58]] rfl (by (try simp only [List.map_toArray, List.map_cons, List.map_nil]); first | done | rfl | (simp only [List.length_drop, List.length_take]; rfl)) ?_; (with_reducible refine (soap_CheckSlate.calls t1048 _ _ t1049 _ _ t1052 t1055 _ ?side1 ?side2 ?side3 ?side4 A39.out).mono ?_); (case side1 => repeat (first | exact (Kd.R_reads' HO1051.out).2.2 | (with_reducible refine Kd.C_alloc ?_ _) | (with_reducible refine Kd.C_drewN ?_ _) | (with_reducible refine Kd.C_drew ?_))); (case side2 => exact (Kd.R_reads' HO1051.out).2.1); (case side3 => repeat (first | exact (Kd.R_reads' HO1054.out).2.2 | (with_reducible refine Kd.C_alloc ?_ _) | (with_reducible refine Kd.C_drewN ?_ _) | (with_reducible refine Kd.C_drew ?_))); (case side4 => exact (Kd.R_reads' HO1054.out).2.1); rintro e w59 ⟨rfl, hb⟩; refine ⟨_, rfl, ?_⟩; have n0_ := mkA (Kd.R_below (by (with_reducible repeat (first | apply Kd.R_alloc | apply Kd.R_drewN | apply Kd.R_drew)); exact HO1025.out) hb); have n1_ := mkA (Kd.R_below (by (with_reducible repeat (first | apply Kd.R_alloc | apply Kd.R_drewN | apply Kd.R_drew)); exact HO1028.out) hb); have n2_ := mkA (Kd.R_below (by (with_reducible repeat (first | apply Kd.R_alloc | apply Kd.R_drewN | apply Kd.R_drew)); exact HO1031.out) hb); have n3_ := mkA (Kd.R_below (by (with_reducible repeat (first | apply Kd.R_alloc | apply Kd.R_drewN | apply Kd.R_drew)); exact HO1034.out) hb); have n4_ := mkA (Kd.R_below (by (with_reducible repeat (first | apply Kd.R_alloc | apply Kd.R_drewN | apply Kd.R_drew)); exact HO1039.out) hb); have n5_ := mkA (Kd.R_below (by (with_reducible repeat (first | apply Kd.R_alloc | apply Kd.R_drewN | apply Kd.R_drew)); exact HO1042.out) hb); have n6_ := mkA (Kd.R_below (by (with_reducible repeat (first | apply Kd.R_alloc | apply Kd.R_drewN | apply Kd.R_drew)); exact HO1045.out) hb); have n7_ := mkA (Kd.R_below (by (with_reducible repeat (first | apply Kd.R_alloc | apply Kd.R_drewN | apply Kd.R_drew)); exact HO1051.out) hb); have n8_ := mkA (Kd.R_below (by (with_reducible repeat (first | apply Kd.R_alloc | apply Kd.R_drewN | apply Kd.R_drew)); exact HO1054.out) hb); have n9_ := mkA (blk_below (g := gb1019) (o := .cells #[.int .i64 a0_0, .slice A0_1 l0_1.length c0_1, .slice A0_2 l0_2.length c0_2] 25 (0, 0)) (by (with_reducible repeat (first | refine z16 ?_ _ | refine z27 ?_ | refine z24 ?_ _)); exact BK1019.out) hb); have n10_ := mkA (z17 (by repeat (first | (with_reducible first | exact HB.out | apply z11 | apply z10 | apply z12 | refine z15 ?_ GE1019.out) | exact HB.out)) hb); clear HO1025; clear HO1028; clear HO1031; clear HO1034; clear HO1039; clear HO1042; clear HO1045; clear HO1051; clear HO1054; clear BK1019; clear HB; have HO1025 := n0_; have HO1028 := n1_; have HO1031 := n2_; have HO1034 := n3_; have HO1039 := n4_; have HO1042 := n5_; have HO1045 := n6_; have HO1051 := n7_; have HO1054 := n8_; have BK1019 := n9_; have HB := n10_; clear n0_ n1_ n2_ n3_ n4_ n5_ n6_ n7_ n8_ n9_ n10_; (try clear hb); (try clear hb2); (try clear hk); (try clear hi)))
      go_meet
      case rel => exact ⟨_, (true), (by first | rfl | (simp; done) | (simp [*]; done)), H', ⟨by have := HJ2.out; first | omega | exact Nat.le_refl _⟩, ⟨by (with_reducible repeat (first | apply Kd.R_alloc | apply Kd.R_drewN | apply Kd.R_drew)); exact Kd.R_mono HO1034.out (fun _ hk => trivial)⟩, ⟨by (with_reducible repeat (first | refine z16 ?_ _ | refine z27 ?_ | refine z24 ?_ _)); exact BK1019.out⟩, ⟨by repeat (first | (with_reducible first | exact HB.out | apply z11 | apply z10 | apply z12 | refine z15 ?_ GE1019.out) | exact HB.out)⟩⟩
    case rest =>
     clear HC21
     try clear c1
     try clear c2
     try clear p2
     try clear c3
     try clear c4
     try clear c6
     try clear c11
     try clear c17
     try clear c20
     try clear c21
     try clear c23
     try clear c30
     try clear c31
     try clear c40
     try clear c40b0
     try clear c40b1
     try clear c41
     try clear c41b0
     try clear c41b1
     try clear c48
     try clear hcz22_0
     try clear hcz22_1
     try clear hcz22_2
     try clear hcz29_0
     try clear hcz29_1
     try clear hcz29_2
     try clear hcz36_0
     try clear hcz36_1
     try clear hcz36_2
     try clear hcz43_0
     try clear hcz43_1
     try clear hcz43_2
     try clear hcz48_0
     try clear hcz48_1
     try clear hcz48_2
     try clear hcz50_0
     try clear hcz50_1
     try clear hcz50_2
     try clear hcz55_0
     try clear hcz55_1
     try clear hcz55_2
     try clear hcz7_0
     try clear hcz7_1
     try clear hcz7_2
     try clear hcz9_0
     try clear hcz9_1
     try clear hcz9_2
     try clear hfz22_0
     try clear hfz22_1
     try clear hfz22_2
     try clear hfz29_0
     try clear hfz29_1
     try clear hfz29_2
     try clear hfz36_0
     try clear hfz36_1
     try clear hfz36_2
     try clear hfz43_0
     try clear hfz43_1
     try clear hfz43_2
     try clear hfz48_0
     try clear hfz48_1
     try clear hfz48_2
     try clear hfz50_0
     try clear hfz50_1
     try clear hfz50_2
     try clear hfz55_0
     try clear hfz55_1
     try clear hfz55_2
     try clear hfz7_0
     try clear hfz7_1
     try clear hfz7_2
     try clear hfz9_0
     try clear hfz9_1
     try clear hfz9_2
     try clear p2
     obtain ⟨kq, x49_20, rfl, HA, HJ20, HO_5, BK1019, HB⟩ := hcut
     cases kq with
     | zero => exact absurd HA.out (by simp [pl_SoapPlays.j1])
     | succ kj20 =>
      have H := HA.out
      clear HA
      simp only [pl_SoapPlays.j1] at H
      by_cases c60 : x49_20 = true
      ·subst c60
       have H1 : (some false) = some r := by rw [if_pos rfl] at H; exact H
       clear H
       have H := H1
       clear H1
       obtain rfl := Option.some.inj H
       go_wp2
       go_ret
       exact ⟨by first | rfl | (simp [z20, z19] <;> rfl) | (simp [*, z20, z19] <;> rfl), by repeat (first | (with_reducible first | exact HB.out | apply z11 | apply z10 | apply z12 | refine z15 ?_ GE1019.out) | exact HB.out)⟩
      ·replace c60 := Bool.eq_false_iff.mpr c60
       subst c60
       have H1 : (if t1047 = 0 then ((pr_AreOunces.f kj20 a0_0 l0_1 l0_2 l1).bind fun t1057 => (pl_SoapPlays.j2 kj20 l1 t1032 t1035 t1047 (!t1057) a0_0 l0_1 l0_2)) else (pl_SoapPlays.j2 kj20 l1 t1032 t1035 t1047 false a0_0 l0_1 l0_2)) = some r := by rw [if_neg (show ¬ (false = true) by decide)] at H; exact H
       clear H
       have H := H1
       clear H1
       have HC61 := mkA H
       clear H
       go_upto_region 8 with (fail)
       go_cut [57] (fun v57 wc => ∃ (kq : Nat) (x57_60 : Bool), v57 = .bool x57_60 ∧ Aside0 (pl_SoapPlays.j2 kq l1 t1032 t1035 t1047 x57_60 a0_0 l0_1 l0_2 = some r) ∧ Aside0 (kq ≤ kj20) ∧ Aside0 (Kd.R (Kd.int .i64) 3 wc w.heap.size (fun _ => True) v1033 t1032) ∧ Aside0 (wc.heap[gb1019]? = some (.cells #[.int .i64 a0_0, (.slice A0_1 l0_1.length c0_1), (.slice A0_2 l0_2.length c0_2)] 25 (0, 0))) ∧ Aside0 (Below w.heap.size w wc))
       case first =>
        have H := HC61.out
        clear HC61
        by_cases c62 : t1047 = 0
        ·rw [if_pos c62] at H
         have c62b0 : (t1047 == 0) = true := beq_iff_eq.mpr c62
         have c62b1 : (t1047 != 0) = false := bne_eq_false_iff_eq.mpr c62
         clear c62
         (first | rw [c62b0] | (simp only [i64_w, i32_w]; rw [c62b0]) | skip)
         replace H := Option.bind_eq_some_iff.mp H
         obtain ⟨t1057, A630, H⟩ := H
         replace H : (pl_SoapPlays.j2 kj20 l1 t1032 t1035 t1047 (!t1057) a0_0 l0_1 l0_2) = some r := H
         have A63 := mkA A630
         clear A630
         have H' := mkA H
         clear H
         have hcz64_0 : wc.cell? ⟨gb1019, 0, none⟩ = some (.int .i64 a0_0) := (z13 BK1019.out 0).trans rfl
         have hcz64_1 : wc.cell? ⟨gb1019, 1, none⟩ = some (.slice A0_1 l0_1.length c0_1) := (z13 BK1019.out 1).trans rfl
         have hcz64_2 : wc.cell? ⟨gb1019, 2, none⟩ = some (.slice A0_2 l0_2.length c0_2) := (z13 BK1019.out 2).trans rfl
         have hfz64_0 := z14 BK1019.out 0
         have hfz64_1 := z14 BK1019.out 1
         have hfz64_2 := z14 BK1019.out 2
         go_wp2_with (first | (go_at_call 32; (with_reducible refine (pr_AreOunces.calls kj20 a0_0 _ _ l0_1 _ _ l0_2 _ _ l1 t1057 _ ?side1 ?side2 ?side3 ?side4 ?side5 ?side6 A63.out).mono ?_); (case side1 => repeat (first | exact (Kd.C_below HR0_1.out HB.out) | (with_reducible refine Kd.C_alloc ?_ _) | (with_reducible refine Kd.C_drewN ?_ _) | (with_reducible refine Kd.C_drew ?_))); (case side2 => exact HC0_1.out); (case side3 => repeat (first | exact (Kd.C_below HR0_2.out HB.out) | (with_reducible refine Kd.C_alloc ?_ _) | (with_reducible refine Kd.C_drewN ?_ _) | (with_reducible refine Kd.C_drew ?_))); (case side4 => exact HC0_2.out); (case side5 => repeat (first | exact (Kd.C_below HR1.out HB.out) | (with_reducible refine Kd.C_alloc ?_ _) | (with_reducible refine Kd.C_drewN ?_ _) | (with_reducible refine Kd.C_drew ?_))); (case side6 => exact HC1.out); rintro e w65 ⟨rfl, hb⟩; have n0_ := mkA (Kd.R_below (by (with_reducible repeat (first | apply Kd.R_alloc | apply Kd.R_drewN | apply Kd.R_drew)); exact HO_5.out) hb); have n1_ := mkA (blk_below (g := gb1019) (o := .cells #[.int .i64 a0_0, .slice A0_1 l0_1.length c0_1, .slice A0_2 l0_2.length c0_2] 25 (0, 0)) (by (with_reducible repeat (first | refine z16 ?_ _ | refine z27 ?_ | refine z24 ?_ _)); exact BK1019.out) hb); have n2_ := mkA (z17 (by repeat (first | (with_reducible first | exact HB.out | apply z11 | apply z10 | apply z12 | refine z15 ?_ GE1019.out) | exact HB.out)) hb); clear HO_5; clear BK1019; clear HB; have HO_5 := n0_; have BK1019 := n1_; have HB := n2_; clear n0_ n1_ n2_; (try clear hb); (try clear hb2); (try clear hk); (try clear hi)))
         go_meet
         case rel => exact ⟨_, (!t1057), (by first | rfl | (simp; done) | (simp [*]; done)), H', ⟨by have := HJ2.out; have := HJ20.out; first | omega | exact Nat.le_refl _⟩, ⟨by (with_reducible repeat (first | apply Kd.R_alloc | apply Kd.R_drewN | apply Kd.R_drew)); exact HO_5.out⟩, ⟨by (with_reducible repeat (first | refine z16 ?_ _ | refine z27 ?_ | refine z24 ?_ _)); exact BK1019.out⟩, ⟨by repeat (first | (with_reducible first | exact HB.out | apply z11 | apply z10 | apply z12 | refine z15 ?_ GE1019.out) | exact HB.out)⟩⟩
        ·rw [if_neg c62] at H
         have c62b0 : (t1047 == 0) = false := beq_eq_false_iff_ne.mpr c62
         have c62b1 : (t1047 != 0) = true := bne_iff_ne.mpr c62
         (first | rw [c62b0] | (simp only [i64_w, i32_w]; rw [c62b0]) | skip)
         have H' := mkA H
         clear H
         go_wp2
         go_meet
         case rel => exact ⟨_, (false), (by first | rfl | (simp; done) | (simp [*]; done)), H', ⟨by have := HJ2.out; have := HJ20.out; first | omega | exact Nat.le_refl _⟩, ⟨by (with_reducible repeat (first | apply Kd.R_alloc | apply Kd.R_drewN | apply Kd.R_drew)); exact HO_5.out⟩, ⟨by (with_reducible repeat (first | refine z16 ?_ _ | refine z27 ?_ | refine z24 ?_ _)); exact BK1019.out⟩, ⟨by repeat (first | (with_reducible first | exact HB.out | apply z11 | apply z10 | apply z12 | refine z15 ?_ GE1019.out) | exact HB.out)⟩⟩
       case rest =>
        clear HC61
        try clear c1
        try clear c2
        try clear p2
        try clear c3
        try clear c4
        try clear c6
        try clear c11
        try clear c17
        try clear c20
        try clear c21
        try clear c23
        try clear c30
        try clear c31
        try clear c40
        try clear c40b0
        try clear c40b1
        try clear c41
        try clear c41b0
        try clear c41b1
        try clear c48
        try clear c60
        try clear c62
        try clear c62b0
        try clear c62b1
        try clear c64
        try clear c65
        try clear hcz22_0
        try clear hcz22_1
        try clear hcz22_2
        try clear hcz29_0
        try clear hcz29_1
        try clear hcz29_2
        try clear hcz36_0
        try clear hcz36_1
        try clear hcz36_2
        try clear hcz43_0
        try clear hcz43_1
        try clear hcz43_2
        try clear hcz48_0
        try clear hcz48_1
        try clear hcz48_2
        try clear hcz50_0
        try clear hcz50_1
        try clear hcz50_2
        try clear hcz55_0
        try clear hcz55_1
        try clear hcz55_2
        try clear hcz64_0
        try clear hcz64_1
        try clear hcz64_2
        try clear hcz7_0
        try clear hcz7_1
        try clear hcz7_2
        try clear hcz9_0
        try clear hcz9_1
        try clear hcz9_2
        try clear hfz22_0
        try clear hfz22_1
        try clear hfz22_2
        try clear hfz29_0
        try clear hfz29_1
        try clear hfz29_2
        try clear hfz36_0
        try clear hfz36_1
        try clear hfz36_2
        try clear hfz43_0
        try clear hfz43_1
        try clear hfz43_2
        try clear hfz48_0
        try clear hfz48_1
        try clear hfz48_2
        try clear hfz50_0
        try clear hfz50_1
        try clear hfz50_2
        try clear hfz55_0
        try clear hfz55_1
        try clear hfz55_2
        try clear hfz64_0
        try clear hfz64_1
        try clear hfz64_2
        try clear hfz7_0
        try clear hfz7_1
        try clear hfz7_2
        try clear hfz9_0
        try clear hfz9_1
        try clear hfz9_2
        try clear p2
        obtain ⟨kq, x57_60, rfl, HA, HJ60, HO_5, BK1019, HB⟩ := hcut
        cases kq with
        | zero => exact absurd HA.out (by simp [pl_SoapPlays.j2])
        | succ kj60 =>
         have H := HA.out
         clear HA
         simp only [pl_SoapPlays.j2] at H
         have HC66 := mkA H
         clear H
         go_upto_if 57 with (fail)
         go_cut [8] (fun v8 wc => ∃ (kq : Nat) (x8_65 : Int), v8 = .int .i64 x8_65 ∧ Aside0 (pl_SoapPlays.j3 kq l1 t1032 t1035 x8_65 a0_0 l0_1 l0_2 = some r) ∧ Aside0 (kq ≤ kj60) ∧ Aside0 (Kd.R (Kd.int .i64) 3 wc w.heap.size (fun _ => True) v1033 t1032) ∧ Aside0 (wc.heap[gb1019]? = some (.cells #[.int .i64 a0_0, (.slice A0_1 l0_1.length c0_1), (.slice A0_2 l0_2.length c0_2)] 25 (0, 0))) ∧ Aside0 (Below w.heap.size w wc))
         case first =>
          have H := HC66.out
          clear HC66
          by_cases c67 : x57_60 = true
          ·subst c67
           have H1 : (pl_SoapPlays.j3 kj60 l1 t1032 t1035 2 a0_0 l0_1 l0_2) = some r := by rw [if_pos rfl] at H; exact H
           clear H
           have H := H1
           clear H1
           have H' := mkA H
           clear H
           go_wp2
           go_meet
           case rel => exact ⟨_, (2), (by first | rfl | (simp; done) | (simp [*]; done)), H', ⟨by have := HJ2.out; have := HJ20.out; have := HJ60.out; first | omega | exact Nat.le_refl _⟩, ⟨by (with_reducible repeat (first | apply Kd.R_alloc | apply Kd.R_drewN | apply Kd.R_drew)); exact HO_5.out⟩, ⟨by (with_reducible repeat (first | refine z16 ?_ _ | refine z27 ?_ | refine z24 ?_ _)); exact BK1019.out⟩, ⟨by repeat (first | (with_reducible first | exact HB.out | apply z11 | apply z10 | apply z12 | refine z15 ?_ GE1019.out) | exact HB.out)⟩⟩
          ·replace c67 := Bool.eq_false_iff.mpr c67
           subst c67
           have H1 : (pl_SoapPlays.j3 kj60 l1 t1032 t1035 t1047 a0_0 l0_1 l0_2) = some r := by rw [if_neg (show ¬ (false = true) by decide)] at H; exact H
           clear H
           have H := H1
           clear H1
           have H' := mkA H
           clear H
           go_wp2
           go_meet
           case rel => exact ⟨_, (t1047), (by first | rfl | (simp; done) | (simp [*]; done)), H', ⟨by have := HJ2.out; have := HJ20.out; have := HJ60.out; first | omega | exact Nat.le_refl _⟩, ⟨by (with_reducible repeat (first | apply Kd.R_alloc | apply Kd.R_drewN | apply Kd.R_drew)); exact HO_5.out⟩, ⟨by (with_reducible repeat (first | refine z16 ?_ _ | refine z27 ?_ | refine z24 ?_ _)); exact BK1019.out⟩, ⟨by repeat (first | (with_reducible first | exact HB.out | apply z11 | apply z10 | apply z12 | refine z15 ?_ GE1019.out) | exact HB.out)⟩⟩
         case rest =>
          clear HC66
          try clear c1
          try clear c2
          try clear p2
          try clear c3
          try clear c4
          try clear c6
          try clear c11
          try clear c17
          try clear c20
          try clear c21
          try clear c23
          try clear c30
          try clear c31
          try clear c40
          try clear c40b0
          try clear c40b1
          try clear c41
          try clear c41b0
          try clear c41b1
          try clear c48
          try clear c60
          try clear c62
          try clear c62b0
          try clear c62b1
          try clear c64
          try clear c65
          try clear c67
          try clear hcz22_0
          try clear hcz22_1
          try clear hcz22_2
          try clear hcz29_0
          try clear hcz29_1
          try clear hcz29_2
          try clear hcz36_0
          try clear hcz36_1
          try clear hcz36_2
          try clear hcz43_0
          try clear hcz43_1
          try clear hcz43_2
          try clear hcz48_0
          try clear hcz48_1
          try clear hcz48_2
          try clear hcz50_0
          try clear hcz50_1
          try clear hcz50_2
          try clear hcz55_0
          try clear hcz55_1
          try clear hcz55_2
          try clear hcz64_0
          try clear hcz64_1
          try clear hcz64_2
          try clear hcz7_0
          try clear hcz7_1
          try clear hcz7_2
          try clear hcz9_0
          try clear hcz9_1
          try clear hcz9_2
          try clear hfz22_0
          try clear hfz22_1
          try clear hfz22_2
          try clear hfz29_0
          try clear hfz29_1
          try clear hfz29_2
          try clear hfz36_0
          try clear hfz36_1
          try clear hfz36_2
          try clear hfz43_0
          try clear hfz43_1
          try clear hfz43_2
          try clear hfz48_0
          try clear hfz48_1
          try clear hfz48_2
          try clear hfz50_0
          try clear hfz50_1
          try clear hfz50_2
          try clear hfz55_0
          try clear hfz55_1
          try clear hfz55_2
          try clear hfz64_0
          try clear hfz64_1
          try clear hfz64_2
          try clear hfz7_0
          try clear hfz7_1
          try clear hfz7_2
          try clear hfz9_0
          try clear hfz9_1
          try clear hfz9_2
          try clear p2
          obtain ⟨kq, x8_65, rfl, HA, HJ65, HO_5, BK1019, HB⟩ := hcut
          cases kq with
          | zero => exact absurd HA.out (by simp [pl_SoapPlays.j3])
          | succ kj65 =>
           have H := HA.out
           clear HA
           simp only [pl_SoapPlays.j3] at H
           by_cases c68 : x8_65 = 0
           ·rw [if_pos c68] at H
            have c68b0 : (x8_65 == 0) = true := beq_iff_eq.mpr c68
            have c68b1 : (x8_65 != 0) = false := bne_eq_false_iff_eq.mpr c68
            clear c68
            have HC69 := mkA H
            clear H
            go_upto_region 12 with (fail)
            go_cut [79] (fun v79 wc => ∃ (kq : Nat) (x79_68 : Bool), v79 = .bool x79_68 ∧ Aside0 (pl_SoapPlays.j4 kq l1 t1032 x79_68 a0_0 l0_1 l0_2 = some r) ∧ Aside0 (kq ≤ kj65) ∧ Aside0 (Kd.R (Kd.int .i64) 3 wc w.heap.size (fun _ => True) v1033 t1032) ∧ Aside0 (wc.heap[gb1019]? = some (.cells #[.int .i64 a0_0, (.slice A0_1 l0_1.length c0_1), (.slice A0_2 l0_2.length c0_2)] 25 (0, 0))) ∧ Aside0 (Below w.heap.size w wc))
            case first =>
             have H := HC69.out
             clear HC69
             by_cases c70 : t1035 = 0
             ·rw [if_pos c70] at H
              have c70b0 : (t1035 == 0) = true := beq_iff_eq.mpr c70
              have c70b1 : (t1035 != 0) = false := bne_eq_false_iff_eq.mpr c70
              clear c70
              (first | rw [c70b0] | (simp only [i64_w, i32_w]; rw [c70b0]) | skip)
              have H' := mkA H
              clear H
              obtain ⟨Ao71, co71, eo71⟩ := Kd.R_slice HO_5.out
              subst eo71
              have hcz72_0 : wc.cell? ⟨gb1019, 0, none⟩ = some (.int .i64 a0_0) := (z13 BK1019.out 0).trans rfl
              have hcz72_1 : wc.cell? ⟨gb1019, 1, none⟩ = some (.slice A0_1 l0_1.length c0_1) := (z13 BK1019.out 1).trans rfl
              have hcz72_2 : wc.cell? ⟨gb1019, 2, none⟩ = some (.slice A0_2 l0_2.length c0_2) := (z13 BK1019.out 2).trans rfl
              have hfz72_0 := z14 BK1019.out 0
              have hfz72_1 := z14 BK1019.out 1
              have hfz72_2 := z14 BK1019.out 2
              go_wp2
              go_meet
              case rel => exact ⟨_, (((t1032.length : Int) != a0_0)), (by first | rfl | (simp; done) | (simp [*]; done)), H', ⟨by have := HJ2.out; have := HJ20.out; have := HJ60.out; have := HJ65.out; first | omega | exact Nat.le_refl _⟩, ⟨by (with_reducible repeat (first | apply Kd.R_alloc | apply Kd.R_drewN | apply Kd.R_drew)); exact HO_5.out⟩, ⟨by (with_reducible repeat (first | refine z16 ?_ _ | refine z27 ?_ | refine z24 ?_ _)); exact BK1019.out⟩, ⟨by repeat (first | (with_reducible first | exact HB.out | apply z11 | apply z10 | apply z12 | refine z15 ?_ GE1019.out) | exact HB.out)⟩⟩
             ·rw [if_neg c70] at H
              have c70b0 : (t1035 == 0) = false := beq_eq_false_iff_ne.mpr c70
              have c70b1 : (t1035 != 0) = true := bne_iff_ne.mpr c70
              (first | rw [c70b0] | (simp only [i64_w, i32_w]; rw [c70b0]) | skip)
              have H' := mkA H
              clear H
              go_wp2
              go_meet
              case rel => exact ⟨_, (true), (by first | rfl | (simp; done) | (simp [*]; done)), H', ⟨by have := HJ2.out; have := HJ20.out; have := HJ60.out; have := HJ65.out; first | omega | exact Nat.le_refl _⟩, ⟨by (with_reducible repeat (first | apply Kd.R_alloc | apply Kd.R_drewN | apply Kd.R_drew)); exact HO_5.out⟩, ⟨by (with_reducible repeat (first | refine z16 ?_ _ | refine z27 ?_ | refine z24 ?_ _)); exact BK1019.out⟩, ⟨by repeat (first | (with_reducible first | exact HB.out | apply z11 | apply z10 | apply z12 | refine z15 ?_ GE1019.out) | exact HB.out)⟩⟩
            case rest =>
             clear HC69
             try clear c1
             try clear c2
             try clear p2
             try clear c3
             try clear c4
             try clear c6
             try clear c7
             try clear c11
             try clear c17
             try clear c20
             try clear c21
             try clear c23
             try clear c30
             try clear c31
             try clear c40
             try clear c40b0
             try clear c40b1
             try clear c41
             try clear c41b0
             try clear c41b1
             try clear c48
             try clear c60
             try clear c62
             try clear c62b0
             try clear c62b1
             try clear c64
             try clear c65
             try clear c67
             try clear c68
             try clear c68b0
             try clear c68b1
             try clear c70
             try clear c70b0
             try clear c70b1
             try clear hcz22_0
             try clear hcz22_1
             try clear hcz22_2
             try clear hcz29_0
             try clear hcz29_1
             try clear hcz29_2
             try clear hcz36_0
             try clear hcz36_1
             try clear hcz36_2
             try clear hcz43_0
             try clear hcz43_1
             try clear hcz43_2
             try clear hcz48_0
             try clear hcz48_1
             try clear hcz48_2
             try clear hcz50_0
             try clear hcz50_1
             try clear hcz50_2
             try clear hcz55_0
             try clear hcz55_1
             try clear hcz55_2
             try clear hcz64_0
             try clear hcz64_1
             try clear hcz64_2
             try clear hcz72_0
             try clear hcz72_1
             try clear hcz72_2
             try clear hcz7_0
             try clear hcz7_1
             try clear hcz7_2
             try clear hcz9_0
             try clear hcz9_1
             try clear hcz9_2
             try clear hfz22_0
             try clear hfz22_1
             try clear hfz22_2
             try clear hfz29_0
             try clear hfz29_1
             try clear hfz29_2
             try clear hfz36_0
             try clear hfz36_1
             try clear hfz36_2
             try clear hfz43_0
             try clear hfz43_1
             try clear hfz43_2
             try clear hfz48_0
             try clear hfz48_1
             try clear hfz48_2
             try clear hfz50_0
             try clear hfz50_1
             try clear hfz50_2
             try clear hfz55_0
             try clear hfz55_1
             try clear hfz55_2
             try clear hfz64_0
             try clear hfz64_1
             try clear hfz64_2
             try clear hfz72_0
             try clear hfz72_1
             try clear hfz72_2
             try clear hfz7_0
             try clear hfz7_1
             try clear hfz7_2
             try clear hfz9_0
             try clear hfz9_1
             try clear hfz9_2
             try clear p2
             obtain ⟨kq, x79_68, rfl, HA, HJ68, HO_5, BK1019, HB⟩ := hcut
             cases kq with
             | zero => exact absurd HA.out (by simp [pl_SoapPlays.j4])
             | succ kj68 =>
              have H := HA.out
              clear HA
              simp only [pl_SoapPlays.j4] at H
              by_cases c73 : x79_68 = true
              ·subst c73
               have H1 : (some false) = some r := by rw [if_pos rfl] at H; exact H
               clear H
               have H := H1
               clear H1
               obtain rfl := Option.some.inj H
               go_wp2
               go_ret
               exact ⟨by first | rfl | (simp [z20, z19] <;> rfl) | (simp [*, z20, z19] <;> rfl), by repeat (first | (with_reducible first | exact HB.out | apply z11 | apply z10 | apply z12 | refine z15 ?_ GE1019.out) | exact HB.out)⟩
              ·replace c73 := Bool.eq_false_iff.mpr c73
               subst c73
               have H1 : (pl_SoapPlays.l0 kj68 l1 t1032 0 a0_0 l0_1 l0_2) = some r := by rw [if_neg (show ¬ (false = true) by decide)] at H; exact H
               clear H
               have H := H1
               clear H1
               have H' := mkA H
               clear H
               go_wp2
               go_loopg [9] kj68 (fun kq v9 w' => ∃ (x9_6 : Int), v9 = .int .i64 x9_6 ∧ Aside0 (pl_SoapPlays.l0 kq l1 t1032 x9_6 a0_0 l0_1 l0_2 = some r) ∧ Aside0 (kq ≤ kj68) ∧ Aside0 (Kd.R (Kd.int .i64) 3 w' w.heap.size (fun _ => True) v1033 t1032) ∧ Aside0 (w'.heap[gb1019]? = some (.cells #[.int .i64 a0_0, (.slice A0_1 l0_1.length c0_1), (.slice A0_2 l0_2.length c0_2)] 25 (0, 0))) ∧ Aside0 (Below w.heap.size w w'))
               case atStart => exact ⟨(0), (by first | rfl | (simp; done) | (simp [*]; done)), H', ⟨Nat.le_refl _⟩, ⟨by (with_reducible repeat (first | apply Kd.R_alloc | apply Kd.R_drewN | apply Kd.R_drew)); exact HO_5.out⟩, ⟨by (with_reducible repeat (first | refine z16 ?_ _ | refine z27 ?_ | refine z24 ?_ _)); exact BK1019.out⟩, ⟨by repeat (first | (with_reducible first | exact HB.out | apply z11 | apply z10 | apply z12 | refine z15 ?_ GE1019.out) | exact HB.out)⟩⟩
               case round =>
                clear H'
                try clear c1
                try clear c2
                try clear p2
                try clear c3
                try clear c4
                try clear c6
                try clear c7
                try clear c11
                try clear c17
                try clear c20
                try clear c21
                try clear c23
                try clear c30
                try clear c31
                try clear c40
                try clear c40b0
                try clear c40b1
                try clear c41
                try clear c41b0
                try clear c41b1
                try clear c48
                try clear c60
                try clear c62
                try clear c62b0
                try clear c62b1
                try clear c64
                try clear c65
                try clear c67
                try clear c68
                try clear c68b0
                try clear c68b1
                try clear c70
                try clear c70b0
                try clear c70b1
                try clear c73
                try clear hcz22_0
                try clear hcz22_1
                try clear hcz22_2
                try clear hcz29_0
                try clear hcz29_1
                try clear hcz29_2
                try clear hcz36_0
                try clear hcz36_1
                try clear hcz36_2
                try clear hcz43_0
                try clear hcz43_1
                try clear hcz43_2
                try clear hcz48_0
                try clear hcz48_1
                try clear hcz48_2
                try clear hcz50_0
                try clear hcz50_1
                try clear hcz50_2
                try clear hcz55_0
                try clear hcz55_1
                try clear hcz55_2
                try clear hcz64_0
                try clear hcz64_1
                try clear hcz64_2
                try clear hcz72_0
                try clear hcz72_1
                try clear hcz72_2
                try clear hcz7_0
                try clear hcz7_1
                try clear hcz7_2
                try clear hcz9_0
                try clear hcz9_1
                try clear hcz9_2
                try clear hfz22_0
                try clear hfz22_1
                try clear hfz22_2
                try clear hfz29_0
                try clear hfz29_1
                try clear hfz29_2
                try clear hfz36_0
                try clear hfz36_1
                try clear hfz36_2
                try clear hfz43_0
                try clear hfz43_1
                try clear hfz43_2
                try clear hfz48_0
                try clear hfz48_1
                try clear hfz48_2
                try clear hfz50_0
                try clear hfz50_1
                try clear hfz50_2
                try clear hfz55_0
                try clear hfz55_1
                try clear hfz55_2
                try clear hfz64_0
                try clear hfz64_1
                try clear hfz64_2
                try clear hfz72_0
                try clear hfz72_1
                try clear hfz72_2
                try clear hfz7_0
                try clear hfz7_1
                try clear hfz7_2
                try clear hfz9_0
                try clear hfz9_1
                try clear hfz9_2
                try clear p2
                obtain ⟨x9_6, rfl, HA, HK6, HO_5, BK1019, HB⟩ := hrel
                cases gk with
                | zero => exact absurd HA.out (by simp [pl_SoapPlays.l0])
                | succ k6 =>
                 have H := HA.out
                 clear HA
                 simp only [pl_SoapPlays.l0] at H
                 by_cases c74 : x9_6 < (t1032.length : Int)
                 ·rw [if_pos c74] at H
                  have c74b0 : decide (x9_6 < (t1032.length : Int)) = true := decide_eq_true c74
                  clear c74
                  by_cases c75 : 0 ≤ x9_6
                  ·rw [if_pos c75] at H
                   have c75b0 : decide (0 ≤ x9_6) = true := decide_eq_true c75
                   clear c75
                   replace H := Option.bind_eq_some_iff.mp H
                   obtain ⟨t1060, A760, H⟩ := H
                   replace H : (if (rd t1032 x9_6) = t1060 then (pl_SoapPlays.l0 k6 l1 t1032 (wrap64 (x9_6 + 1)) a0_0 l0_1 l0_2) else (some false)) = some r := H
                   have A76 := mkA A760
                   clear A760
                   by_cases c77 : (rd t1032 x9_6) = t1060
                   ·rw [if_pos c77] at H
                    have c77b0 : ((rd t1032 x9_6) == t1060) = true := beq_iff_eq.mpr c77
                    have c77b1 : ((rd t1032 x9_6) != t1060) = false := bne_eq_false_iff_eq.mpr c77
                    clear c77
                    have H' := mkA H
                    clear H
                    obtain ⟨Ao78, co78, eo78⟩ := Kd.R_slice HO_5.out
                    subst eo78
                    try go_wp2
                    have n0_ := mkA (Kd.R_drew HO_5.out)
                    have n1_ := mkA (z27 BK1019.out)
                    have n2_ := mkA (z12 HB.out)
                    clear HO_5
                    clear BK1019
                    clear HB
                    have HO_5 := n0_
                    have BK1019 := n1_
                    have HB := n2_
                    clear n0_ n1_ n2_
                    have p1059 : 0 ≤ (x9_6 : Int) := of_decide_eq_true (by first | (with_reducible assumption) | assumption)
                    have q1059 : x9_6 < (t1032.length : Int) := of_decide_eq_true (by first | (with_reducible assumption) | assumption)
                    obtain ⟨ad1059, e1059, hx1059_0⟩ := Kd.at_int (Kd.R_reads' HO_5.out).2.2 x9_6 p1059 q1059
                    cases e1059
                    replace p1059 := eq_true p1059
                    replace q1059 := eq_true q1059
                    refine start_ (n := 9) (S := fun w' => w'.cell? ⟨gb1019, 0, none⟩ = some (.int .i64 a0_0) ∧ w'.cell? ⟨gb1019, 1, none⟩ = some (.slice A0_1 l0_1.length c0_1) ∧ w'.cell? ⟨gb1019, 2, none⟩ = some (.slice A0_2 l0_2.length c0_2) ∧ w'.cell? (ad1059.add (x9_6).toNat) = some (.int .i64 (rd t1032 x9_6))) (ds := []) #[false, false, false, false, false, false, false, false, false] (by kernel_rfl) rfl rfl ⟨(z13 BK1019.out 0).trans rfl, (z13 BK1019.out 1).trans rfl, (z13 BK1019.out 2).trans rfl, hx1059_0⟩ (fun hHeld => ?_); refine z43 pl_SoapPlays.tab17 pl_SoapPlays.bits17 (fun HT_ HW_ => ?_)
                    generalize wr.drew = w79 at HO_5 BK1019 HB hx1059_0 hHeld ⊢
                    refine pure_ (i := 0) (N := some 86) (v := ?_) (a' := ?_) #[true, false, false, false, false, false, false, false, false] rfl rfl (any_of HT_.out (by kernel_rfl)) (fun _ _ _ h => h) (Or.inl ⟨by rfl, ?_⟩) ?_ ?_
                    rotate_left
                    ·intro w'
                     go_simp
                     with_reducible rfl
                    rotate_left
                    ·simp only [Act.put, xq1, xq2, xq3, i64_w, i32_w]
                     rfl
                    refine pure_ (i := 1) (N := some 87) (v := ?_) (a' := ?_) #[true, true, false, false, false, false, false, false, false] rfl rfl (any_of HT_.out (by kernel_rfl)) (fun _ _ _ h => h) (Or.inl ⟨by rfl, ?_⟩) ?_ ?_
                    rotate_left
                    ·intro w'
                     go_simp
                     with_reducible rfl
                    rotate_left
                    ·simp only [Act.put, xq1, xq2, xq3, i64_w, i32_w]
                     rfl
                    refine pure_ (i := 2) (N := some 88) (v := ?_) (a' := ?_) #[true, true, true, false, false, false, false, false, false] rfl rfl (any_of HT_.out (by kernel_rfl)) (fun _ _ _ h => h) (Or.inl ⟨by rfl, ?_⟩) ?_ ?_
                    rotate_left
                    ·intro w'
                     go_simp
                     with_reducible rfl
                    rotate_left
                    ·simp only [Act.put, xq1, xq2, xq3, i64_w, i32_w]
                     rfl
                    refine pure_ (i := 5) (N := some 91) (v := ?_) (a' := ?_) #[true, true, true, false, false, true, false, false, false] rfl rfl (any_of HT_.out (by kernel_rfl)) (fun _ _ _ h => h) (Or.inl ⟨by rfl, ?_⟩) ?_ ?_
                    rotate_left
                    ·intro w'
                     go_simp
                     with_reducible rfl
                    rotate_left
                    ·simp only [Act.put, xq1, xq2, xq3, i64_w, i32_w]
                     rfl
                    refine pure_ (i := 6) (N := some 92) (v := ?_) (a' := ?_) #[true, true, true, false, false, true, true, false, false] rfl rfl (any_of HT_.out (by kernel_rfl)) (fun _ _ _ h => h) (Or.inl ⟨by rfl, ?_⟩) ?_ ?_
                    rotate_left
                    ·intro w'
                     go_simp
                     with_reducible rfl
                    rotate_left
                    ·simp only [Act.put, xq1, xq2, xq3, i64_w, i32_w]
                     rfl
                    refine take_ (i := 3) (N := some 89) (v := ?_) (a' := ?_) #[true, true, true, true, false, true, true, false, false] rfl rfl (z31 HT_.out HW_.out (by kernel_rfl)) (fun _ _ _ h => h) (Or.inl ⟨by rfl, ?_⟩) hHeld ?_ ?_
                    rotate_left
                    ·rintro w' ⟨s0, s1, s2, s3⟩
                     go_simp
                     with_reducible rfl
                    rotate_left
                    ·simp only [Act.put, xq1, xq2, xq3, i64_w, i32_w]
                     rfl
                    refine take_ (i := 4) (N := some 90) (v := ?_) (a' := ?_) #[true, true, true, true, true, true, true, false, false] rfl rfl (z31 HT_.out HW_.out (by kernel_rfl)) (fun _ _ _ h => h) (Or.inl ⟨by rfl, ?_⟩) hHeld ?_ ?_
                    rotate_left
                    ·rintro w' ⟨s0, s1, s2, s3⟩
                     go_simp
                     with_reducible rfl
                    rotate_left
                    ·simp only [Act.put, xq1, xq2, xq3, i64_w, i32_w]
                     rfl
                    refine one_ (i := 7) (N := some 93) #[true, true, true, true, true, true, true, true, false] rfl rfl (one_of HT_.out (by kernel_rfl)) (by decide) (fun K hK => ?_)
                    refine goes_ Try.func54 (by kernel_rfl) rfl #[.agg #[.int .i64 a0_0, .slice A0_1 l0_1.length c0_1, .slice A0_2 l0_2.length c0_2], .slice A1 l1.length c1, .int .i64 x9_6] (by rfl) rfl rfl (by (try simp only [List.map_toArray, List.map_cons, List.map_nil]); first | done | rfl | (simp only [List.length_drop, List.length_take]; rfl)) ?_
                    with_reducible refine (pr_Owed.calls k6 a0_0 _ _ l0_1 _ _ l0_2 _ _ l1 x9_6 t1060 _ ?side1 ?side2 ?side3 ?side4 ?side5 ?side6 A76.out).mono ?_
                    (case side1 => repeat (first | exact (Kd.C_below HR0_1.out HB.out) | (with_reducible refine Kd.C_alloc ?_ _) | (with_reducible refine Kd.C_drewN ?_ _) | (with_reducible refine Kd.C_drew ?_)))
                    (case side2 => exact HC0_1.out)
                    (case side3 => repeat (first | exact (Kd.C_below HR0_2.out HB.out) | (with_reducible refine Kd.C_alloc ?_ _) | (with_reducible refine Kd.C_drewN ?_ _) | (with_reducible refine Kd.C_drew ?_)))
                    (case side4 => exact HC0_2.out)
                    (case side5 => repeat (first | exact (Kd.C_below HR1.out HB.out) | (with_reducible refine Kd.C_alloc ?_ _) | (with_reducible refine Kd.C_drewN ?_ _) | (with_reducible refine Kd.C_drew ?_)))
                    (case side6 => exact HC1.out)
                    rintro e w80 ⟨rfl, hb⟩
                    have HS3_ := (hb.cell (World.block_lt_of_cell? _ _ (hHeld.2.2.2))).trans (hHeld.2.2.2)
                    refine ⟨_, rfl, ?_⟩
                    have n0_ := mkA (Kd.R_below (by (with_reducible repeat (first | apply Kd.R_alloc | apply Kd.R_drewN | apply Kd.R_drew)); exact HO_5.out) hb)
                    have n1_ := mkA (blk_below (g := gb1019) (o := .cells #[.int .i64 a0_0, .slice A0_1 l0_1.length c0_1, .slice A0_2 l0_2.length c0_2] 25 (0, 0)) (by (with_reducible repeat (first | refine z16 ?_ _ | refine z27 ?_ | refine z24 ?_ _)); exact BK1019.out) hb)
                    have n2_ := mkA (z17 (by repeat (first | (with_reducible first | exact HB.out | apply z11 | apply z10 | apply z12 | refine z15 ?_ GE1019.out) | exact HB.out)) hb)
                    clear HO_5
                    clear BK1019
                    clear HB
                    have HO_5 := n0_
                    have BK1019 := n1_
                    have HB := n2_
                    clear n0_ n1_ n2_
                    (try clear hb)
                    (try clear hb2)
                    (try clear hk)
                    (try clear hi)
                    refine hK.out _ _ ⟨(z13 BK1019.out 0).trans rfl, (z13 BK1019.out 1).trans rfl, (z13 BK1019.out 2).trans rfl, HS3_⟩ (fun hHeld => ?_)
                    clear hK K
                    refine norm_ (a' := ?_) ?_ ?_
                    rotate_left
                    ·show Act.put _ (some 93) _ = _
                     simp only [Act.put, xq1, xq2, xq3, i64_w, i32_w]
                     rfl
                    refine pure_ (i := 8) (N := some 94) (v := ?_) (a' := ?_) #[true, true, true, true, true, true, true, true, true] rfl rfl (any_of HT_.out (by kernel_rfl)) (fun _ _ _ h => h) (Or.inl ⟨by rfl, ?_⟩) ?_ ?_
                    rotate_left
                    ·intro w'
                     go_simp
                     with_reducible rfl
                    rotate_left
                    ·simp only [Act.put, xq1, xq2, xq3, i64_w, i32_w]
                     rfl
                    refine done_ (done_of HT_.out (by kernel_rfl)) ?_
                    try go_wp2
                    go_roundg k6
                    case measure => have := HJ2.out; have := HJ20.out; have := HJ60.out; have := HJ65.out; have := HJ68.out; have := HK6.out; omega
                    case rel => exact ⟨(wrap64 (x9_6 + 1)), (by first | rfl | (simp; done) | (simp [*]; done)), H', ⟨by have := HJ2.out; have := HJ20.out; have := HJ60.out; have := HJ65.out; have := HJ68.out; have := HK6.out; omega⟩, ⟨by (with_reducible repeat (first | apply Kd.R_alloc | apply Kd.R_drewN | apply Kd.R_drew)); exact HO_5.out⟩, ⟨by (with_reducible repeat (first | refine z16 ?_ _ | refine z27 ?_ | refine z24 ?_ _)); exact BK1019.out⟩, ⟨by repeat (first | (with_reducible first | exact HB.out | apply z11 | apply z10 | apply z12 | refine z15 ?_ GE1019.out) | exact HB.out)⟩⟩
                   ·rw [if_neg c77] at H
                    have c77b0 : ((rd t1032 x9_6) == t1060) = false := beq_eq_false_iff_ne.mpr c77
                    have c77b1 : ((rd t1032 x9_6) != t1060) = true := bne_iff_ne.mpr c77
                    obtain rfl := Option.some.inj H
                    obtain ⟨Ao81, co81, eo81⟩ := Kd.R_slice HO_5.out
                    subst eo81
                    try go_wp2
                    have n0_ := mkA (Kd.R_drew HO_5.out)
                    have n1_ := mkA (z27 BK1019.out)
                    have n2_ := mkA (z12 HB.out)
                    clear HO_5
                    clear BK1019
                    clear HB
                    have HO_5 := n0_
                    have BK1019 := n1_
                    have HB := n2_
                    clear n0_ n1_ n2_
                    have p1059 : 0 ≤ (x9_6 : Int) := of_decide_eq_true (by first | (with_reducible assumption) | assumption)
                    have q1059 : x9_6 < (t1032.length : Int) := of_decide_eq_true (by first | (with_reducible assumption) | assumption)
                    obtain ⟨ad1059, e1059, hx1059_0⟩ := Kd.at_int (Kd.R_reads' HO_5.out).2.2 x9_6 p1059 q1059
                    cases e1059
                    replace p1059 := eq_true p1059
                    replace q1059 := eq_true q1059
                    refine start_ (n := 9) (S := fun w' => w'.cell? ⟨gb1019, 0, none⟩ = some (.int .i64 a0_0) ∧ w'.cell? ⟨gb1019, 1, none⟩ = some (.slice A0_1 l0_1.length c0_1) ∧ w'.cell? ⟨gb1019, 2, none⟩ = some (.slice A0_2 l0_2.length c0_2) ∧ w'.cell? (ad1059.add (x9_6).toNat) = some (.int .i64 (rd t1032 x9_6))) (ds := []) #[false, false, false, false, false, false, false, false, false] (by kernel_rfl) rfl rfl ⟨(z13 BK1019.out 0).trans rfl, (z13 BK1019.out 1).trans rfl, (z13 BK1019.out 2).trans rfl, hx1059_0⟩ (fun hHeld => ?_); refine z43 pl_SoapPlays.tab17 pl_SoapPlays.bits17 (fun HT_ HW_ => ?_)
                    generalize wr.drew = w82 at HO_5 BK1019 HB hx1059_0 hHeld ⊢
                    refine pure_ (i := 0) (N := some 86) (v := ?_) (a' := ?_) #[true, false, false, false, false, false, false, false, false] rfl rfl (any_of HT_.out (by kernel_rfl)) (fun _ _ _ h => h) (Or.inl ⟨by rfl, ?_⟩) ?_ ?_
                    rotate_left
                    ·intro w'
                     go_simp
                     with_reducible rfl
                    rotate_left
                    ·simp only [Act.put, xq1, xq2, xq3, i64_w, i32_w]
                     rfl
                    refine pure_ (i := 1) (N := some 87) (v := ?_) (a' := ?_) #[true, true, false, false, false, false, false, false, false] rfl rfl (any_of HT_.out (by kernel_rfl)) (fun _ _ _ h => h) (Or.inl ⟨by rfl, ?_⟩) ?_ ?_
                    rotate_left
                    ·intro w'
                     go_simp
                     with_reducible rfl
                    rotate_left
                    ·simp only [Act.put, xq1, xq2, xq3, i64_w, i32_w]
                     rfl
                    refine pure_ (i := 2) (N := some 88) (v := ?_) (a' := ?_) #[true, true, true, false, false, false, false, false, false] rfl rfl (any_of HT_.out (by kernel_rfl)) (fun _ _ _ h => h) (Or.inl ⟨by rfl, ?_⟩) ?_ ?_
                    rotate_left
                    ·intro w'
                     go_simp
                     with_reducible rfl
                    rotate_left
                    ·simp only [Act.put, xq1, xq2, xq3, i64_w, i32_w]
                     rfl
                    refine pure_ (i := 5) (N := some 91) (v := ?_) (a' := ?_) #[true, true, true, false, false, true, false, false, false] rfl rfl (any_of HT_.out (by kernel_rfl)) (fun _ _ _ h => h) (Or.inl ⟨by rfl, ?_⟩) ?_ ?_
                    rotate_left
                    ·intro w'
                     go_simp
                     with_reducible rfl
                    rotate_left
                    ·simp only [Act.put, xq1, xq2, xq3, i64_w, i32_w]
                     rfl
                    refine pure_ (i := 6) (N := some 92) (v := ?_) (a' := ?_) #[true, true, true, false, false, true, true, false, false] rfl rfl (any_of HT_.out (by kernel_rfl)) (fun _ _ _ h => h) (Or.inl ⟨by rfl, ?_⟩) ?_ ?_
                    rotate_left
                    ·intro w'
                     go_simp
                     with_reducible rfl
                    rotate_left
                    ·simp only [Act.put, xq1, xq2, xq3, i64_w, i32_w]
                     rfl
                    refine take_ (i := 3) (N := some 89) (v := ?_) (a' := ?_) #[true, true, true, true, false, true, true, false, false] rfl rfl (z31 HT_.out HW_.out (by kernel_rfl)) (fun _ _ _ h => h) (Or.inl ⟨by rfl, ?_⟩) hHeld ?_ ?_
                    rotate_left
                    ·rintro w' ⟨s0, s1, s2, s3⟩
                     go_simp
                     with_reducible rfl
                    rotate_left
                    ·simp only [Act.put, xq1, xq2, xq3, i64_w, i32_w]
                     rfl
                    refine take_ (i := 4) (N := some 90) (v := ?_) (a' := ?_) #[true, true, true, true, true, true, true, false, false] rfl rfl (z31 HT_.out HW_.out (by kernel_rfl)) (fun _ _ _ h => h) (Or.inl ⟨by rfl, ?_⟩) hHeld ?_ ?_
                    rotate_left
                    ·rintro w' ⟨s0, s1, s2, s3⟩
                     go_simp
                     with_reducible rfl
                    rotate_left
                    ·simp only [Act.put, xq1, xq2, xq3, i64_w, i32_w]
                     rfl
                    refine one_ (i := 7) (N := some 93) #[true, true, true, true, true, true, true, true, false] rfl rfl (one_of HT_.out (by kernel_rfl)) (by decide) (fun K hK => ?_)
                    refine goes_ Try.func54 (by kernel_rfl) rfl #[.agg #[.int .i64 a0_0, .slice A0_1 l0_1.length c0_1, .slice A0_2 l0_2.length c0_2], .slice A1 l1.length c1, .int .i64 x9_6] (by rfl) rfl rfl (by (try simp only [List.map_toArray, List.map_cons, List.map_nil]); first | done | rfl | (simp only [List.length_drop, List.length_take]; rfl)) ?_
                    with_reducible refine (pr_Owed.calls k6 a0_0 _ _ l0_1 _ _ l0_2 _ _ l1 x9_6 t1060 _ ?side1 ?side2 ?side3 ?side4 ?side5 ?side6 A76.out).mono ?_
                    (case side1 => repeat (first | exact (Kd.C_below HR0_1.out HB.out) | (with_reducible refine Kd.C_alloc ?_ _) | (with_reducible refine Kd.C_drewN ?_ _) | (with_reducible refine Kd.C_drew ?_)))
                    (case side2 => exact HC0_1.out)
                    (case side3 => repeat (first | exact (Kd.C_below HR0_2.out HB.out) | (with_reducible refine Kd.C_alloc ?_ _) | (with_reducible refine Kd.C_drewN ?_ _) | (with_reducible refine Kd.C_drew ?_)))
                    (case side4 => exact HC0_2.out)
                    (case side5 => repeat (first | exact (Kd.C_below HR1.out HB.out) | (with_reducible refine Kd.C_alloc ?_ _) | (with_reducible refine Kd.C_drewN ?_ _) | (with_reducible refine Kd.C_drew ?_)))
                    (case side6 => exact HC1.out)
                    rintro e w83 ⟨rfl, hb⟩
                    have HS3_ := (hb.cell (World.block_lt_of_cell? _ _ (hHeld.2.2.2))).trans (hHeld.2.2.2)
                    refine ⟨_, rfl, ?_⟩
                    have n0_ := mkA (Kd.R_below (by (with_reducible repeat (first | apply Kd.R_alloc | apply Kd.R_drewN | apply Kd.R_drew)); exact HO_5.out) hb)
                    have n1_ := mkA (blk_below (g := gb1019) (o := .cells #[.int .i64 a0_0, .slice A0_1 l0_1.length c0_1, .slice A0_2 l0_2.length c0_2] 25 (0, 0)) (by (with_reducible repeat (first | refine z16 ?_ _ | refine z27 ?_ | refine z24 ?_ _)); exact BK1019.out) hb)
                    have n2_ := mkA (z17 (by repeat (first | (with_reducible first | exact HB.out | apply z11 | apply z10 | apply z12 | refine z15 ?_ GE1019.out) | exact HB.out)) hb)
                    clear HO_5
                    clear BK1019
                    clear HB
                    have HO_5 := n0_
                    have BK1019 := n1_
                    have HB := n2_
                    clear n0_ n1_ n2_
                    (try clear hb)
                    (try clear hb2)
                    (try clear hk)
                    (try clear hi)
                    refine hK.out _ _ ⟨(z13 BK1019.out 0).trans rfl, (z13 BK1019.out 1).trans rfl, (z13 BK1019.out 2).trans rfl, HS3_⟩ (fun hHeld => ?_)
                    clear hK K
                    refine norm_ (a' := ?_) ?_ ?_
                    rotate_left
                    ·show Act.put _ (some 93) _ = _
                     simp only [Act.put, xq1, xq2, xq3, i64_w, i32_w]
                     rfl
                    refine pure_ (i := 8) (N := some 94) (v := ?_) (a' := ?_) #[true, true, true, true, true, true, true, true, true] rfl rfl (any_of HT_.out (by kernel_rfl)) (fun _ _ _ h => h) (Or.inl ⟨by rfl, ?_⟩) ?_ ?_
                    rotate_left
                    ·intro w'
                     go_simp
                     with_reducible rfl
                    rotate_left
                    ·simp only [Act.put, xq1, xq2, xq3, i64_w, i32_w]
                     rfl
                    refine done_ (done_of HT_.out (by kernel_rfl)) ?_
                    try go_wp2
                    go_ret
                    exact ⟨by first | rfl | (simp [z20, z19] <;> rfl) | (simp [*, z20, z19] <;> rfl), by repeat (first | (with_reducible first | exact HB.out | apply z11 | apply z10 | apply z12 | refine z15 ?_ GE1019.out) | exact HB.out)⟩
                  ·rw [if_neg c75] at H
                   exact absurd H (by simp)
                 ·rw [if_neg c74] at H
                  have c74b0 : decide (x9_6 < (t1032.length : Int)) = false := decide_eq_false c74
                  clear c74
                  replace H := Option.bind_eq_some_iff.mp H
                  obtain ⟨t1061, A840, H⟩ := H
                  replace H : (some t1061) = some r := H
                  have A84 := mkA A840
                  clear A840
                  obtain rfl := Option.some.inj H
                  obtain ⟨Ao85, co85, eo85⟩ := Kd.R_slice HO_5.out
                  subst eo85
                  go_wp2_with (first | ((with_reducible refine z22 (f := 21) rfl ?_); refine goesL_ (some 95) rfl rfl Try.func21 (by kernel_rfl) rfl #[] rfl (by (try simp only [List.map_toArray, List.map_cons, List.map_nil]); first | done | rfl | (simp only [List.length_drop, List.length_take]; rfl)) ?_; (with_reducible refine (pl_awake.calls  t1061 _ A84.out).mono ?_); rintro e w86 ⟨rfl, hb⟩; refine ⟨_, rfl, ?_⟩; have n0_ := mkA (Kd.R_below (by (with_reducible repeat (first | apply Kd.R_alloc | apply Kd.R_drewN | apply Kd.R_drew)); exact HO_5.out) hb); have n1_ := mkA (blk_below (g := gb1019) (o := .cells #[.int .i64 a0_0, .slice A0_1 l0_1.length c0_1, .slice A0_2 l0_2.length c0_2] 25 (0, 0)) (by (with_reducible repeat (first | refine z16 ?_ _ | refine z27 ?_ | refine z24 ?_ _)); exact BK1019.out) hb); have n2_ := mkA (z17 (by repeat (first | (with_reducible first | exact HB.out | apply z11 | apply z10 | apply z12 | refine z15 ?_ GE1019.out) | exact HB.out)) hb); clear HO_5; clear BK1019; clear HB; have HO_5 := n0_; have BK1019 := n1_; have HB := n2_; clear n0_ n1_ n2_; (try clear hb); (try clear hb2); (try clear hk); (try clear hi)))
                  go_ret
                  exact ⟨by first | rfl | (simp [z20, z19] <;> rfl) | (simp [*, z20, z19] <;> rfl), by repeat (first | (with_reducible first | exact HB.out | apply z11 | apply z10 | apply z12 | refine z15 ?_ GE1019.out) | exact HB.out)⟩
           ·rw [if_neg c68] at H
            have c68b0 : (x8_65 == 0) = false := beq_eq_false_iff_ne.mpr c68
            have c68b1 : (x8_65 != 0) = true := bne_iff_ne.mpr c68
            by_cases c87 : t1035 = x8_65
            ·rw [if_pos c87] at H
             have c87b0 : (t1035 == x8_65) = true := beq_iff_eq.mpr c87
             have c87b1 : (t1035 != x8_65) = false := bne_eq_false_iff_eq.mpr c87
             clear c87
             by_cases c88 : (t1032.length : Int) = 0
             ·rw [if_pos c88] at H
              have c88b0 : ((t1032.length : Int) == 0) = true := beq_iff_eq.mpr c88
              have c88b1 : ((t1032.length : Int) != 0) = false := bne_eq_false_iff_eq.mpr c88
              clear c88
              replace H := Option.bind_eq_some_iff.mp H
              obtain ⟨t1058, A890, H⟩ := H
              replace H : (some t1058) = some r := H
              have A89 := mkA A890
              clear A890
              obtain rfl := Option.some.inj H
              obtain ⟨Ao90, co90, eo90⟩ := Kd.R_slice HO_5.out
              subst eo90
              go_wp2_with (first | (go_at_call 21; (with_reducible refine (pl_awake.calls  t1058 _ A89.out).mono ?_); rintro e w91 ⟨rfl, hb⟩; have n0_ := mkA (Kd.R_below (by (with_reducible repeat (first | apply Kd.R_alloc | apply Kd.R_drewN | apply Kd.R_drew)); exact HO_5.out) hb); have n1_ := mkA (blk_below (g := gb1019) (o := .cells #[.int .i64 a0_0, .slice A0_1 l0_1.length c0_1, .slice A0_2 l0_2.length c0_2] 25 (0, 0)) (by (with_reducible repeat (first | refine z16 ?_ _ | refine z27 ?_ | refine z24 ?_ _)); exact BK1019.out) hb); have n2_ := mkA (z17 (by repeat (first | (with_reducible first | exact HB.out | apply z11 | apply z10 | apply z12 | refine z15 ?_ GE1019.out) | exact HB.out)) hb); clear HO_5; clear BK1019; clear HB; have HO_5 := n0_; have BK1019 := n1_; have HB := n2_; clear n0_ n1_ n2_; (try clear hb); (try clear hb2); (try clear hk); (try clear hi)))
              go_ret
              exact ⟨by first | rfl | (simp [z20, z19] <;> rfl) | (simp [*, z20, z19] <;> rfl), by repeat (first | (with_reducible first | exact HB.out | apply z11 | apply z10 | apply z12 | refine z15 ?_ GE1019.out) | exact HB.out)⟩
             ·rw [if_neg c88] at H
              have c88b0 : ((t1032.length : Int) == 0) = false := beq_eq_false_iff_ne.mpr c88
              have c88b1 : ((t1032.length : Int) != 0) = true := bne_iff_ne.mpr c88
              have c88b2 : ¬ (t1032 = []) := fun h_ => c88 (by rw [h_]; rfl)
              obtain rfl := Option.some.inj H
              obtain ⟨Ao92, co92, eo92⟩ := Kd.R_slice HO_5.out
              subst eo92
              go_wp2
              go_ret
              exact ⟨by first | rfl | (simp [z20, z19] <;> rfl) | (simp [*, z20, z19] <;> rfl), by repeat (first | (with_reducible first | exact HB.out | apply z11 | apply z10 | apply z12 | refine z15 ?_ GE1019.out) | exact HB.out)⟩
            ·rw [if_neg c87] at H
             have c87b0 : (t1035 == x8_65) = false := beq_eq_false_iff_ne.mpr c87
             have c87b1 : (t1035 != x8_65) = true := bne_iff_ne.mpr c87
             obtain rfl := Option.some.inj H
             go_wp2
             go_ret
             exact ⟨by first | rfl | (simp [z20, z19] <;> rfl) | (simp [*, z20, z19] <;> rfl), by repeat (first | (with_reducible first | exact HB.out | apply z11 | apply z10 | apply z12 | refine z15 ?_ GE1019.out) | exact HB.out)⟩
end Go.Proofs.Ytncaadckehikpaa.Q
