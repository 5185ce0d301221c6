/- A part of the proof: contracts of functions and plain facts (Q26). No condition. -/
import Derived.Test.YtncaadckehikpaaM3
import Derived.Test.YtncaadckehikpaaM25
import Derived.Test.YtncaadckehikpaaM11
import Derived.Test.YtncaadckehikpaaM12
import Derived.Test.YtncaadckehikpaaM18
import Derived.Test.YtncaadckehikpaaM24
import Derived.Test.YtncaadckehikpaaM26
import Derived.Test.YtncaadckehikpaaM29
import Derived.Test.YtncaadckehikpaaM22
namespace Go.Proofs.Ytncaadckehikpaa.Q
open Go.RowKit Go.Proofs.YtncaadckehikpaaW.PrintWords Go.Proofs.YtncaadckehikpaaW.PrintLast Go.Proofs.YtncaadckehikpaaW.PrintMore
attribute [local go_sem] max2_int min2_int max_two min_two   -- for this text's walks alone
set_option linter.unusedVariables false
set_option linter.unusedSimpArgs false
attribute [local go_sem high] eqA44
/-! ### posserlaw08_SoapBounds: function 3 -/
mutual
def posserlaw08_SoapBounds.j0 : Nat → List (S44) → List Int → List (List Int) → Bool → Int → List (S91) → List (S94) → Option (Bool)
 | 0, _, _, _, _, _, _, _ => none
 | k + 1, x3, x5, x7, x71, x224000, x224001, x224002 => if x71 = true then (some false) else (posserlaw08_SoapBounds.l0 k x3 x5 x7 0 x224000 x224001 x224002)
def posserlaw08_SoapBounds.l0 : Nat → List (S44) → List Int → List (List Int) → Int → Int → List (S91) → List (S94) → Option (Bool)
 | 0, _, _, _, _, _, _, _ => none
 | k + 1, x3, x5, x7, x9, x224000, x224001, x224002 => if x9 < x224000 then (if 0 ≤ x9 then (if x9 < (x3.length : Int) then ((posserref08_Bounds.f k x224000 x224001 x224002 x7 x9).bind fun bt255 => ((posserlaw08_to.f bt255.1 bt255.2).bind fun bt257 => (if (!(((rd_T44 x3 x9).f0) == bt257.1) || (!(((rd_T44 x3 x9).f1) == bt257.2))) = true then (some false) else (if x9 < (x5.length : Int) then ((posserref08_Owes.f k x224000 x224001 x224002 x7 x9).bind fun t260 => (if (rd x5 x9) = t260 then (posserlaw08_SoapBounds.l0 k x3 x5 x7 (wrap64 (x9 + 1)) x224000 x224001 x224002) else (some false))) else (none))))) else (none)) else (none)) else ((posserlaw08_awake.f).bind fun t253 => (some t253))
end
def posserlaw08_SoapBounds.f (k : Nat) (a0_0 : Int) (l0_1 : List (S91)) (l0_2 : List (S94)) : Option (Bool) := (posserlaw08_Thin.f a0_0 l0_1 l0_2).bind fun t224 => (if t224 = true then ((posserlaw08_Slate.f k a0_0 l0_1 l0_2).bind fun bt226 => ((soap_Bounds.f bt226.1 bt226.2.1 bt226.2.2).bind fun bt233 => ((posserlaw08_Slate.f k a0_0 l0_1 l0_2).bind fun bt237 => ((soap_Owes.f k bt237.1 bt237.2.1 bt237.2.2).bind fun bt244 => ((posserlaw08_sure.f k a0_0 l0_1 l0_2).bind fun bt248 => (if bt248.2 = 0 then (if bt233.2 = 0 then (if bt244.2 = 0 then (if (bt233.1.length : Int) = a0_0 then (posserlaw08_SoapBounds.j0 k bt233.1 bt244.1 bt248.1 ((bt244.1.length : Int) != a0_0) a0_0 l0_1 l0_2) else (posserlaw08_SoapBounds.j0 k bt233.1 bt244.1 bt248.1 true a0_0 l0_1 l0_2)) else (posserlaw08_SoapBounds.j0 k bt233.1 bt244.1 bt248.1 true a0_0 l0_1 l0_2)) else (posserlaw08_SoapBounds.j0 k bt233.1 bt244.1 bt248.1 true a0_0 l0_1 l0_2)) else (if bt233.2 = bt248.2 then (if bt244.2 = bt248.2 then (if (wrap64 ((bt233.1.length : Int) + (bt244.1.length : Int))) = 0 then ((posserlaw08_awake.f).bind fun t252 => (some t252)) else (some false)) else (some false)) else (some false)))))))) else ((posserlaw08_awake.f).bind fun t225 => (some t225)))
def posserlaw08_SoapBounds.T13 : Bool × List (List Nat × List Nat) := (true, [([], []), ([], []), ([0, 1], [0, 1]), ([2], [2]), ([], []), ([], []), ([], []), ([4, 5, 6], [4, 5, 6]), ([7, 7], [7]), ([3, 8], [3, 8]), ([9, 8], [9]), ([10], [10]), ([10], [10]), ([11, 12, 10], [10, 11, 12]), ([13, 10], [10, 13]), ([10], [10]), ([10], [10]), ([10], [10]), ([15, 16, 17, 10, 10], [10, 15, 16, 17]), ([14, 18, 10], [10, 14, 18]), ([10, 19], [10, 19])])
def posserlaw08_SoapBounds.B13 : List Nat := [0, 0, 3, 7, 0, 0, 0, 112, 240, 511, 1023, 2047, 2047, 8191, 16383, 2047, 2047, 2047, 231423, 524287, 1048575]
theorem posserlaw08_SoapBounds.tab13 : rtab .any (opsOf Try.f3 13) = posserlaw08_SoapBounds.T13 := by kernel_rfl
theorem posserlaw08_SoapBounds.bits13 : waitsOk posserlaw08_SoapBounds.T13.2 posserlaw08_SoapBounds.B13 = true := by kernel_rfl
set_option maxHeartbeats 8000000 in
set_option maxRecDepth 100000 in
theorem posserlaw08_SoapBounds.calls (k : Nat) (a0_0 : Int) (A0_1 : Option Addr) (c0_1 : Nat) (l0_1 : List (S91)) (A0_2 : Option Addr) (c0_2 : Nat) (l0_2 : List (S94)) (r : Bool) (w : World) (hr0_1 : Kd.C k91 w A0_1 l0_1.length l0_1) (hc0_1 : l0_1.length ≤ c0_1) (hr0_2 : Kd.C k94 w A0_2 l0_2.length l0_2) (hc0_2 : l0_2.length ≤ c0_2) (h : posserlaw08_SoapBounds.f k a0_0 l0_1 l0_2 = some r) :
  Calls Try.prog 3 #[.agg #[.int .i64 a0_0, .slice A0_1 l0_1.length c0_1, .slice A0_2 l0_2.length c0_2]] w fun e w' => e = .returned (.bool r) ∧ Below w.heap.size w w' := by
 have hu25 := Try.underlying25
 have hu44 := Try.underlying44
 have HR0_1 := mkA hr0_1
 have HC0_1 := mkA hc0_1
 clear hr0_1 hc0_1
 have HR0_2 := mkA hr0_2
 have HC0_2 := mkA hc0_2
 clear hr0_2 hc0_2
 have HB := mkA (Below.refl w.heap.size w)
 have H : ((posserlaw08_Thin.f a0_0 l0_1 l0_2).bind fun t224 => (if t224 = true then ((posserlaw08_Slate.f k a0_0 l0_1 l0_2).bind fun bt226 => ((soap_Bounds.f bt226.1 bt226.2.1 bt226.2.2).bind fun bt233 => ((posserlaw08_Slate.f k a0_0 l0_1 l0_2).bind fun bt237 => ((soap_Owes.f k bt237.1 bt237.2.1 bt237.2.2).bind fun bt244 => ((posserlaw08_sure.f k a0_0 l0_1 l0_2).bind fun bt248 => (if bt248.2 = 0 then (if bt233.2 = 0 then (if bt244.2 = 0 then (if (bt233.1.length : Int) = a0_0 then (posserlaw08_SoapBounds.j0 k bt233.1 bt244.1 bt248.1 ((bt244.1.length : Int) != a0_0) a0_0 l0_1 l0_2) else (posserlaw08_SoapBounds.j0 k bt233.1 bt244.1 bt248.1 true a0_0 l0_1 l0_2)) else (posserlaw08_SoapBounds.j0 k bt233.1 bt244.1 bt248.1 true a0_0 l0_1 l0_2)) else (posserlaw08_SoapBounds.j0 k bt233.1 bt244.1 bt248.1 true a0_0 l0_1 l0_2)) else (if bt233.2 = bt248.2 then (if bt244.2 = bt248.2 then (if (wrap64 ((bt233.1.length : Int) + (bt244.1.length : Int))) = 0 then ((posserlaw08_awake.f).bind fun t252 => (some t252)) else (some false)) else (some false)) else (some false)))))))) else ((posserlaw08_awake.f).bind fun t225 => (some t225)))) = some r := h
 clear h
 replace H := Option.bind_eq_some_iff.mp H
 obtain ⟨t224, A20, H⟩ := H
 replace H : (if t224 = true then ((posserlaw08_Slate.f k a0_0 l0_1 l0_2).bind fun bt226 => ((soap_Bounds.f bt226.1 bt226.2.1 bt226.2.2).bind fun bt233 => ((posserlaw08_Slate.f k a0_0 l0_1 l0_2).bind fun bt237 => ((soap_Owes.f k bt237.1 bt237.2.1 bt237.2.2).bind fun bt244 => ((posserlaw08_sure.f k a0_0 l0_1 l0_2).bind fun bt248 => (if bt248.2 = 0 then (if bt233.2 = 0 then (if bt244.2 = 0 then (if (bt233.1.length : Int) = a0_0 then (posserlaw08_SoapBounds.j0 k bt233.1 bt244.1 bt248.1 ((bt244.1.length : Int) != a0_0) a0_0 l0_1 l0_2) else (posserlaw08_SoapBounds.j0 k bt233.1 bt244.1 bt248.1 true a0_0 l0_1 l0_2)) else (posserlaw08_SoapBounds.j0 k bt233.1 bt244.1 bt248.1 true a0_0 l0_1 l0_2)) else (posserlaw08_SoapBounds.j0 k bt233.1 bt244.1 bt248.1 true a0_0 l0_1 l0_2)) else (if bt233.2 = bt248.2 then (if bt244.2 = bt248.2 then (if (wrap64 ((bt233.1.length : Int) + (bt244.1.length : Int))) = 0 then ((posserlaw08_awake.f).bind fun t252 => (some t252)) else (some false)) else (some false)) else (some false)))))))) else ((posserlaw08_awake.f).bind fun t225 => (some t225))) = some r := H
 have A2 := mkA A20
 clear A20
 by_cases c3 : t224 = true
 ·subst c3
  have H1 : ((posserlaw08_Slate.f k a0_0 l0_1 l0_2).bind fun bt226 => ((soap_Bounds.f bt226.1 bt226.2.1 bt226.2.2).bind fun bt233 => ((posserlaw08_Slate.f k a0_0 l0_1 l0_2).bind fun bt237 => ((soap_Owes.f k bt237.1 bt237.2.1 bt237.2.2).bind fun bt244 => ((posserlaw08_sure.f k a0_0 l0_1 l0_2).bind fun bt248 => (if bt248.2 = 0 then (if bt233.2 = 0 then (if bt244.2 = 0 then (if (bt233.1.length : Int) = a0_0 then (posserlaw08_SoapBounds.j0 k bt233.1 bt244.1 bt248.1 ((bt244.1.length : Int) != a0_0) a0_0 l0_1 l0_2) else (posserlaw08_SoapBounds.j0 k bt233.1 bt244.1 bt248.1 true a0_0 l0_1 l0_2)) else (posserlaw08_SoapBounds.j0 k bt233.1 bt244.1 bt248.1 true a0_0 l0_1 l0_2)) else (posserlaw08_SoapBounds.j0 k bt233.1 bt244.1 bt248.1 true a0_0 l0_1 l0_2)) else (if bt233.2 = bt248.2 then (if bt244.2 = bt248.2 then (if (wrap64 ((bt233.1.length : Int) + (bt244.1.length : Int))) = 0 then ((posserlaw08_awake.f).bind fun t252 => (some t252)) else (some false)) else (some false)) else (some false)))))))) = some r := by rw [if_pos rfl] at H; exact H
  clear H
  have H := H1
  clear H1
  replace H := Option.bind_eq_some_iff.mp H
  obtain ⟨⟨t226, t227, t230⟩, A40, H⟩ := H
  replace H : ((soap_Bounds.f t226 t227 t230).bind fun bt233 => ((posserlaw08_Slate.f k a0_0 l0_1 l0_2).bind fun bt237 => ((soap_Owes.f k bt237.1 bt237.2.1 bt237.2.2).bind fun bt244 => ((posserlaw08_sure.f k a0_0 l0_1 l0_2).bind fun bt248 => (if bt248.2 = 0 then (if bt233.2 = 0 then (if bt244.2 = 0 then (if (bt233.1.length : Int) = a0_0 then (posserlaw08_SoapBounds.j0 k bt233.1 bt244.1 bt248.1 ((bt244.1.length : Int) != a0_0) a0_0 l0_1 l0_2) else (posserlaw08_SoapBounds.j0 k bt233.1 bt244.1 bt248.1 true a0_0 l0_1 l0_2)) else (posserlaw08_SoapBounds.j0 k bt233.1 bt244.1 bt248.1 true a0_0 l0_1 l0_2)) else (posserlaw08_SoapBounds.j0 k bt233.1 bt244.1 bt248.1 true a0_0 l0_1 l0_2)) else (if bt233.2 = bt248.2 then (if bt244.2 = bt248.2 then (if (wrap64 ((bt233.1.length : Int) + (bt244.1.length : Int))) = 0 then ((posserlaw08_awake.f).bind fun t252 => (some t252)) else (some false)) else (some false)) else (some false))))))) = some r := H
  have A4 := mkA A40
  clear A40
  replace H := Option.bind_eq_some_iff.mp H
  obtain ⟨⟨t233, t236⟩, A50, H⟩ := H
  replace H : ((posserlaw08_Slate.f k a0_0 l0_1 l0_2).bind fun bt237 => ((soap_Owes.f k bt237.1 bt237.2.1 bt237.2.2).bind fun bt244 => ((posserlaw08_sure.f k a0_0 l0_1 l0_2).bind fun bt248 => (if bt248.2 = 0 then (if t236 = 0 then (if bt244.2 = 0 then (if (t233.length : Int) = a0_0 then (posserlaw08_SoapBounds.j0 k t233 bt244.1 bt248.1 ((bt244.1.length : Int) != a0_0) a0_0 l0_1 l0_2) else (posserlaw08_SoapBounds.j0 k t233 bt244.1 bt248.1 true a0_0 l0_1 l0_2)) else (posserlaw08_SoapBounds.j0 k t233 bt244.1 bt248.1 true a0_0 l0_1 l0_2)) else (posserlaw08_SoapBounds.j0 k t233 bt244.1 bt248.1 true a0_0 l0_1 l0_2)) else (if t236 = bt248.2 then (if bt244.2 = bt248.2 then (if (wrap64 ((t233.length : Int) + (bt244.1.length : Int))) = 0 then ((posserlaw08_awake.f).bind fun t252 => (some t252)) else (some false)) else (some false)) else (some false)))))) = some r := H
  have A5 := mkA A50
  clear A50
  replace H := Option.bind_eq_some_iff.mp H
  obtain ⟨⟨t237, t238, t241⟩, A60, H⟩ := H
  replace H : ((soap_Owes.f k t237 t238 t241).bind fun bt244 => ((posserlaw08_sure.f k a0_0 l0_1 l0_2).bind fun bt248 => (if bt248.2 = 0 then (if t236 = 0 then (if bt244.2 = 0 then (if (t233.length : Int) = a0_0 then (posserlaw08_SoapBounds.j0 k t233 bt244.1 bt248.1 ((bt244.1.length : Int) != a0_0) a0_0 l0_1 l0_2) else (posserlaw08_SoapBounds.j0 k t233 bt244.1 bt248.1 true a0_0 l0_1 l0_2)) else (posserlaw08_SoapBounds.j0 k t233 bt244.1 bt248.1 true a0_0 l0_1 l0_2)) else (posserlaw08_SoapBounds.j0 k t233 bt244.1 bt248.1 true a0_0 l0_1 l0_2)) else (if t236 = bt248.2 then (if bt244.2 = bt248.2 then (if (wrap64 ((t233.length : Int) + (bt244.1.length : Int))) = 0 then ((posserlaw08_awake.f).bind fun t252 => (some t252)) else (some false)) else (some false)) else (some false))))) = some r := H
  have A6 := mkA A60
  clear A60
  replace H := Option.bind_eq_some_iff.mp H
  obtain ⟨⟨t244, t247⟩, A70, H⟩ := H
  replace H : ((posserlaw08_sure.f k a0_0 l0_1 l0_2).bind fun bt248 => (if bt248.2 = 0 then (if t236 = 0 then (if t247 = 0 then (if (t233.length : Int) = a0_0 then (posserlaw08_SoapBounds.j0 k t233 t244 bt248.1 ((t244.length : Int) != a0_0) a0_0 l0_1 l0_2) else (posserlaw08_SoapBounds.j0 k t233 t244 bt248.1 true a0_0 l0_1 l0_2)) else (posserlaw08_SoapBounds.j0 k t233 t244 bt248.1 true a0_0 l0_1 l0_2)) else (posserlaw08_SoapBounds.j0 k t233 t244 bt248.1 true a0_0 l0_1 l0_2)) else (if t236 = bt248.2 then (if t247 = bt248.2 then (if (wrap64 ((t233.length : Int) + (t244.length : Int))) = 0 then ((posserlaw08_awake.f).bind fun t252 => (some t252)) else (some false)) else (some false)) else (some false)))) = some r := H
  have A7 := mkA A70
  clear A70
  replace H := Option.bind_eq_some_iff.mp H
  obtain ⟨⟨t248, t251⟩, A80, H⟩ := H
  replace H : (if t251 = 0 then (if t236 = 0 then (if t247 = 0 then (if (t233.length : Int) = a0_0 then (posserlaw08_SoapBounds.j0 k t233 t244 t248 ((t244.length : Int) != a0_0) a0_0 l0_1 l0_2) else (posserlaw08_SoapBounds.j0 k t233 t244 t248 true a0_0 l0_1 l0_2)) else (posserlaw08_SoapBounds.j0 k t233 t244 t248 true a0_0 l0_1 l0_2)) else (posserlaw08_SoapBounds.j0 k t233 t244 t248 true a0_0 l0_1 l0_2)) else (if t236 = t251 then (if t247 = t251 then (if (wrap64 ((t233.length : Int) + (t244.length : Int))) = 0 then ((posserlaw08_awake.f).bind fun t252 => (some t252)) else (some false)) else (some false)) else (some false))) = some r := H
  have A8 := mkA A80
  clear A80
  by_cases c9 : t251 = 0
  ·rw [if_pos c9] at H
   have c9b0 : (t251 == 0) = true := beq_iff_eq.mpr c9
   have c9b1 : (t251 != 0) = false := bne_eq_false_iff_eq.mpr c9
   clear c9
   have HC10 := mkA H
   clear H
   go_enter Try.func3, Try.ntmps3
   go_upto_region 8 with (first | ((with_reducible refine gate_dst (N := 1) rfl ?_); (try (refine gate_guard (by rfl) ?_; dsimp only)); refine box_event ?hg (N := 1) ?hd (cs := #[.int .i64 a0_0, .slice A0_1 l0_1.length c0_1, .slice A0_2 l0_2.length c0_2]) (t := 25) ?hr ?_; (case hd => rfl); (case hg => rfl); (case hr => first | (go_simp; done) | (go_simp; rfl)); intro gb223 hg w11 hbox hb; have n0_ := mkA (below_step (by repeat (with_reducible first | exact HB.out | apply below_alloc | apply pw_below_drewN | apply below_drew1)) hb); have n1_ := mkA (hbox); have n2_ := mkA ((by rw [hg]; exact (below_size (by repeat (with_reducible first | exact HB.out | apply below_alloc | apply pw_below_drewN | apply below_drew1))) : w.heap.size ≤ gb223)); have n3_ := mkA ((by rw [hg]; exact (below_size (by repeat (with_reducible first | exact HB.out | apply below_alloc | apply pw_below_drewN | apply below_drew1))) : w.heap.size ≤ gb223)); clear HB; have HB := n0_; have BK223 := n1_; have GW223 := n2_; have GE223 := n3_; clear n0_ n1_ n2_ n3_; clear hb hbox hg; have hcz12_0 : w11.cell? ⟨gb223, 0, none⟩ = some (.int .i64 a0_0) := (blk_cell BK223.out 0).trans rfl; have hcz12_1 : w11.cell? ⟨gb223, 1, none⟩ = some (.slice A0_1 l0_1.length c0_1) := (blk_cell BK223.out 1).trans rfl; have hcz12_2 : w11.cell? ⟨gb223, 2, none⟩ = some (.slice A0_2 l0_2.length c0_2) := (blk_cell BK223.out 2).trans rfl; have hfz12_0 := blk_frozen BK223.out 0; have hfz12_1 := blk_frozen BK223.out 1; have hfz12_2 := blk_frozen BK223.out 2) | ((with_reducible refine gate_callee (f := 20) rfl ?_); refine goesL_ (some 11) rfl rfl Try.func20 (by kernel_rfl) rfl #[.agg #[.int .i64 a0_0, .slice A0_1 l0_1.length c0_1, .slice A0_2 l0_2.length c0_2]] rfl (by (try simp only [List.map_toArray, List.map_cons, List.map_nil]); first | done | rfl | (simp only [List.length_drop, List.length_take]; rfl)) ?_; (with_reducible refine (posserlaw08_Thin.calls a0_0 _ _ l0_1 _ _ l0_2 true _ ?side1 ?side2 ?side3 ?side4 A2.out).mono ?_); (case side1 => repeat (first | exact (Kd.C_below HR0_1.out HB.out))); (case side2 => exact HC0_1.out); (case side3 => repeat (first | exact (Kd.C_below HR0_2.out HB.out))); (case side4 => exact HC0_2.out); rintro e w13 ⟨rfl, hb⟩; refine ⟨_, rfl, ?_⟩; have n0_ := mkA (blk_below (g := gb223) (o := .cells #[.int .i64 a0_0, .slice A0_1 l0_1.length c0_1, .slice A0_2 l0_2.length c0_2] 25 (0, 0)) (by (with_reducible repeat (first | refine blk_drewN ?_ _)); exact BK223.out) hb); have n1_ := mkA (below_step (by repeat (with_reducible first | exact HB.out | apply below_alloc | apply pw_below_drewN | apply below_drew1 | refine below_set ?_ GE223.out)) hb); clear BK223; clear HB; have BK223 := n0_; have HB := n1_; clear n0_ n1_; (try clear hb); (try clear hb2); (try clear hk); (try clear hi); have hcz14_0 : w13.cell? ⟨gb223, 0, none⟩ = some (.int .i64 a0_0) := (blk_cell BK223.out 0).trans rfl; have hcz14_1 : w13.cell? ⟨gb223, 1, none⟩ = some (.slice A0_1 l0_1.length c0_1) := (blk_cell BK223.out 1).trans rfl; have hcz14_2 : w13.cell? ⟨gb223, 2, none⟩ = some (.slice A0_2 l0_2.length c0_2) := (blk_cell BK223.out 2).trans rfl; have hfz14_0 := blk_frozen BK223.out 0; have hfz14_1 := blk_frozen BK223.out 1; have hfz14_2 := blk_frozen BK223.out 2) | ((with_reducible refine gate_callee (f := 23) rfl ?_); refine goesL_ (some 16) rfl rfl Try.func23 (by kernel_rfl) rfl #[.agg #[.int .i64 a0_0, .slice A0_1 l0_1.length c0_1, .slice A0_2 l0_2.length c0_2]] rfl (by (try simp only [List.map_toArray, List.map_cons, List.map_nil]); first | done | rfl | (simp only [List.length_drop, List.length_take]; rfl)) ?_; (with_reducible refine (posserlaw08_Slate.calls k a0_0 _ _ l0_1 _ _ l0_2 t226 t227 t230 _ ?side1 ?side2 ?side3 ?side4 A4.out).mono ?_); (case side1 => repeat (first | exact (Kd.C_below HR0_1.out HB.out))); (case side2 => exact HC0_1.out); (case side3 => repeat (first | exact (Kd.C_below HR0_2.out HB.out))); (case side4 => exact HC0_2.out); rintro e w15 ⟨v228, v231, rfl, ho0, ho1, hb⟩; refine ⟨_, rfl, ?_⟩; have n0_ := mkA (Kd.R_lower ho0 (below_size (by repeat (with_reducible first | exact HB.out | apply below_alloc | apply pw_below_drewN | apply below_drew1 | refine below_set ?_ GE223.out)))); have n1_ := mkA (Kd.R_lower ho1 (below_size (by repeat (with_reducible first | exact HB.out | apply below_alloc | apply pw_below_drewN | apply below_drew1 | refine below_set ?_ GE223.out)))); have n2_ := mkA (blk_below (g := gb223) (o := .cells #[.int .i64 a0_0, .slice A0_1 l0_1.length c0_1, .slice A0_2 l0_2.length c0_2] 25 (0, 0)) (by (with_reducible repeat (first | refine blk_drewN ?_ _)); exact BK223.out) hb); have n3_ := mkA (below_step (by repeat (with_reducible first | exact HB.out | apply below_alloc | apply pw_below_drewN | apply below_drew1 | refine below_set ?_ GE223.out)) hb); clear BK223; clear HB; have HO229 := n0_; have HO232 := n1_; have BK223 := n2_; have HB := n3_; clear n0_ n1_ n2_ n3_; (try clear hb); (try clear hb2); (try clear hk); (try clear hi); (try clear ho0); (try clear ho1); obtain ⟨Ao16, co16, eo16⟩ := Kd.R_slice HO229.out; subst eo16; obtain ⟨Ao17, co17, eo17⟩ := Kd.R_slice HO232.out; subst eo17) | ((with_reducible refine gate_callee (f := 22) rfl ?_); refine goesL_ (some 17) rfl rfl Try.func22 (by kernel_rfl) rfl #[.agg #[.int .i64 t226, .slice Ao16 t227.length co16, .slice Ao17 t230.length co17]] rfl (by (try simp only [List.map_toArray, List.map_cons, List.map_nil]); first | done | rfl | (simp only [List.length_drop, List.length_take]; rfl)) ?_; (with_reducible refine (soap_Bounds.calls t226 _ _ t227 _ _ t230 t233 t236 _ ?side1 ?side2 ?side3 ?side4 A5.out).mono ?_); (case side1 => repeat (first | exact (Kd.R_reads' HO229.out).2.2)); (case side2 => exact (Kd.R_reads' HO229.out).2.1); (case side3 => repeat (first | exact (Kd.R_reads' HO232.out).2.2)); (case side4 => exact (Kd.R_reads' HO232.out).2.1); rintro e w18 ⟨v234, rfl, ho0, hb⟩; refine ⟨_, rfl, ?_⟩; have n0_ := mkA (Kd.R_below (by (with_reducible repeat (first | apply Kd.R_alloc)); exact HO229.out) hb); have n1_ := mkA (Kd.R_below (by (with_reducible repeat (first | apply Kd.R_alloc)); exact HO232.out) hb); have n2_ := mkA (Kd.R_lower ho0 (below_size (by repeat (with_reducible first | exact HB.out | apply below_alloc | apply pw_below_drewN | apply below_drew1 | refine below_set ?_ GE223.out)))); have n3_ := mkA (blk_below (g := gb223) (o := .cells #[.int .i64 a0_0, .slice A0_1 l0_1.length c0_1, .slice A0_2 l0_2.length c0_2] 25 (0, 0)) (by (with_reducible repeat (first | refine blk_drewN ?_ _)); exact BK223.out) hb); have n4_ := mkA (below_step (by repeat (with_reducible first | exact HB.out | apply below_alloc | apply pw_below_drewN | apply below_drew1 | refine below_set ?_ GE223.out)) hb); clear HO229; clear HO232; clear BK223; clear HB; have HO229 := n0_; have HO232 := n1_; have HO235 := n2_; have BK223 := n3_; have HB := n4_; clear n0_ n1_ n2_ n3_ n4_; (try clear hb); (try clear hb2); (try clear hk); (try clear hi); (try clear ho0); have hcz19_0 : w18.cell? ⟨gb223, 0, none⟩ = some (.int .i64 a0_0) := (blk_cell BK223.out 0).trans rfl; have hcz19_1 : w18.cell? ⟨gb223, 1, none⟩ = some (.slice A0_1 l0_1.length c0_1) := (blk_cell BK223.out 1).trans rfl; have hcz19_2 : w18.cell? ⟨gb223, 2, none⟩ = some (.slice A0_2 l0_2.length c0_2) := (blk_cell BK223.out 2).trans rfl; have hfz19_0 := blk_frozen BK223.out 0; have hfz19_1 := blk_frozen BK223.out 1; have hfz19_2 := blk_frozen BK223.out 2) | ((with_reducible refine gate_callee (f := 23) rfl ?_); refine goesL_ (some 22) rfl rfl Try.func23 (by kernel_rfl) rfl #[.agg #[.int .i64 a0_0, .slice A0_1 l0_1.length c0_1, .slice A0_2 l0_2.length c0_2]] rfl (by (try simp only [List.map_toArray, List.map_cons, List.map_nil]); first | done | rfl | (simp only [List.length_drop, List.length_take]; rfl)) ?_; (with_reducible refine (posserlaw08_Slate.calls k a0_0 _ _ l0_1 _ _ l0_2 t237 t238 t241 _ ?side1 ?side2 ?side3 ?side4 A6.out).mono ?_); (case side1 => repeat (first | exact (Kd.C_below HR0_1.out HB.out))); (case side2 => exact HC0_1.out); (case side3 => repeat (first | exact (Kd.C_below HR0_2.out HB.out))); (case side4 => exact HC0_2.out); rintro e w20 ⟨v239, v242, rfl, ho0, ho1, hb⟩; refine ⟨_, rfl, ?_⟩; have n0_ := mkA (Kd.R_elder' (by (with_reducible repeat (first | apply Kd.R_alloc)); exact HO229.out) (Kd.R_base ho0) hb); have n1_ := mkA (Kd.R_elder' (by (with_reducible repeat (first | apply Kd.R_alloc)); exact HO232.out) (Kd.R_base ho1) hb); have n2_ := mkA (Kd.R_below (by (with_reducible repeat (first | apply Kd.R_alloc)); exact HO235.out) hb); have n3_ := mkA (Kd.R_lower (Kd.R_new' ho0 (Kd.R_lt (by (with_reducible repeat (first | apply Kd.R_alloc)); exact HO229.out))) (below_size (by repeat (with_reducible first | exact HB.out | apply below_alloc | apply pw_below_drewN | apply below_drew1 | refine below_set ?_ GE223.out)))); have n4_ := mkA (Kd.R_lower (Kd.R_new' ho1 (Kd.R_lt (by (with_reducible repeat (first | apply Kd.R_alloc)); exact HO232.out))) (below_size (by repeat (with_reducible first | exact HB.out | apply below_alloc | apply pw_below_drewN | apply below_drew1 | refine below_set ?_ GE223.out)))); have n5_ := mkA (blk_below (g := gb223) (o := .cells #[.int .i64 a0_0, .slice A0_1 l0_1.length c0_1, .slice A0_2 l0_2.length c0_2] 25 (0, 0)) (by (with_reducible repeat (first | refine blk_drewN ?_ _)); exact BK223.out) hb); have n6_ := mkA (below_step (by repeat (with_reducible first | exact HB.out | apply below_alloc | apply pw_below_drewN | apply below_drew1 | refine below_set ?_ GE223.out)) hb); clear HO229; clear HO232; clear HO235; clear BK223; clear HB; have HO229 := n0_; have HO232 := n1_; have HO235 := n2_; have HO240 := n3_; have HO243 := n4_; have BK223 := n5_; have HB := n6_; clear n0_ n1_ n2_ n3_ n4_ n5_ n6_; (try clear hb); (try clear hb2); (try clear hk); (try clear hi); (try clear ho0); (try clear ho1); obtain ⟨Ao21, co21, eo21⟩ := Kd.R_slice HO240.out; subst eo21; obtain ⟨Ao22, co22, eo22⟩ := Kd.R_slice HO243.out; subst eo22) | ((with_reducible refine gate_callee (f := 24) rfl ?_); refine goesL_ (some 23) rfl rfl Try.func24 (by kernel_rfl) rfl #[.agg #[.int .i64 t237, .slice Ao21 t238.length co21, .slice Ao22 t241.length co22]] rfl (by (try simp only [List.map_toArray, List.map_cons, List.map_nil]); first | done | rfl | (simp only [List.length_drop, List.length_take]; rfl)) ?_; (with_reducible refine (soap_Owes.calls k t237 _ _ t238 _ _ t241 t244 t247 _ ?side1 ?side2 ?side3 ?side4 A7.out).mono ?_); (case side1 => repeat (first | exact (Kd.R_reads' HO240.out).2.2)); (case side2 => exact (Kd.R_reads' HO240.out).2.1); (case side3 => repeat (first | exact (Kd.R_reads' HO243.out).2.2)); (case side4 => exact (Kd.R_reads' HO243.out).2.1); rintro e w23 ⟨v245, rfl, ho0, hb⟩; refine ⟨_, rfl, ?_⟩; have n0_ := mkA (Kd.R_below (by (with_reducible repeat (first | apply Kd.R_alloc)); exact HO229.out) hb); have n1_ := mkA (Kd.R_below (by (with_reducible repeat (first | apply Kd.R_alloc)); exact HO232.out) hb); have n2_ := mkA (Kd.R_below (by (with_reducible repeat (first | apply Kd.R_alloc)); exact HO235.out) hb); have n3_ := mkA (Kd.R_below (by (with_reducible repeat (first | apply Kd.R_alloc)); exact HO240.out) hb); have n4_ := mkA (Kd.R_below (by (with_reducible repeat (first | apply Kd.R_alloc)); exact HO243.out) hb); have n5_ := mkA (Kd.R_lower ho0 (below_size (by repeat (with_reducible first | exact HB.out | apply below_alloc | apply pw_below_drewN | apply below_drew1 | refine below_set ?_ GE223.out)))); have n6_ := mkA (blk_below (g := gb223) (o := .cells #[.int .i64 a0_0, .slice A0_1 l0_1.length c0_1, .slice A0_2 l0_2.length c0_2] 25 (0, 0)) (by (with_reducible repeat (first | refine blk_drewN ?_ _)); exact BK223.out) hb); have n7_ := mkA (below_step (by repeat (with_reducible first | exact HB.out | apply below_alloc | apply pw_below_drewN | apply below_drew1 | refine below_set ?_ GE223.out)) hb); clear HO229; clear HO232; clear HO235; clear HO240; clear HO243; clear BK223; clear HB; have HO229 := n0_; have HO232 := n1_; have HO235 := n2_; have HO240 := n3_; have HO243 := n4_; have HO246 := n5_; have BK223 := n6_; have HB := n7_; clear n0_ n1_ n2_ n3_ n4_ n5_ n6_ n7_; (try clear hb); (try clear hb2); (try clear hk); (try clear hi); (try clear ho0); have hcz24_0 : w23.cell? ⟨gb223, 0, none⟩ = some (.int .i64 a0_0) := (blk_cell BK223.out 0).trans rfl; have hcz24_1 : w23.cell? ⟨gb223, 1, none⟩ = some (.slice A0_1 l0_1.length c0_1) := (blk_cell BK223.out 1).trans rfl; have hcz24_2 : w23.cell? ⟨gb223, 2, none⟩ = some (.slice A0_2 l0_2.length c0_2) := (blk_cell BK223.out 2).trans rfl; have hfz24_0 := blk_frozen BK223.out 0; have hfz24_1 := blk_frozen BK223.out 1; have hfz24_2 := blk_frozen BK223.out 2) | ((with_reducible refine gate_callee (f := 25) rfl ?_); refine goesL_ (some 28) rfl rfl Try.func25 (by kernel_rfl) rfl #[.agg #[.int .i64 a0_0, .slice A0_1 l0_1.length c0_1, .slice A0_2 l0_2.length c0_2]] rfl (by (try simp only [List.map_toArray, List.map_cons, List.map_nil]); first | done | rfl | (simp only [List.length_drop, List.length_take]; rfl)) ?_; (with_reducible refine (posserlaw08_sure.calls k a0_0 _ _ l0_1 _ _ l0_2 t248 t251 _ ?side1 ?side2 ?side3 ?side4 A8.out).mono ?_); (case side1 => repeat (first | exact (Kd.C_below HR0_1.out HB.out))); (case side2 => exact HC0_1.out); (case side3 => repeat (first | exact (Kd.C_below HR0_2.out HB.out))); (case side4 => exact HC0_2.out); rintro e w25 ⟨v249, rfl, ho0, hb⟩; refine ⟨_, rfl, ?_⟩; have n0_ := mkA (Kd.R_below (by (with_reducible repeat (first | apply Kd.R_alloc)); exact HO229.out) hb); have n1_ := mkA (Kd.R_below (by (with_reducible repeat (first | apply Kd.R_alloc)); exact HO232.out) hb); have n2_ := mkA (Kd.R_below (by (with_reducible repeat (first | apply Kd.R_alloc)); exact HO235.out) hb); have n3_ := mkA (Kd.R_below (by (with_reducible repeat (first | apply Kd.R_alloc)); exact HO240.out) hb); have n4_ := mkA (Kd.R_below (by (with_reducible repeat (first | apply Kd.R_alloc)); exact HO243.out) hb); have n5_ := mkA (Kd.R_below (by (with_reducible repeat (first | apply Kd.R_alloc)); exact HO246.out) hb); have n6_ := mkA (Kd.S_lower (Kd.S_new' ho0 (Kd.R_lt (by (with_reducible repeat (first | apply Kd.R_alloc)); exact HO246.out))) (below_size (by repeat (with_reducible first | exact HB.out | apply below_alloc | apply pw_below_drewN | apply below_drew1 | refine below_set ?_ GE223.out)))); have n7_ := mkA (blk_below (g := gb223) (o := .cells #[.int .i64 a0_0, .slice A0_1 l0_1.length c0_1, .slice A0_2 l0_2.length c0_2] 25 (0, 0)) (by (with_reducible repeat (first | refine blk_drewN ?_ _)); exact BK223.out) hb); have n8_ := mkA (below_step (by repeat (with_reducible first | exact HB.out | apply below_alloc | apply pw_below_drewN | apply below_drew1 | refine below_set ?_ GE223.out)) hb); clear HO229; clear HO232; clear HO235; clear HO240; clear HO243; clear HO246; clear BK223; clear HB; have HO229 := n0_; have HO232 := n1_; have HO235 := n2_; have HO240 := n3_; have HO243 := n4_; have HO246 := n5_; have HO250 := n6_; have BK223 := n7_; have HB := n8_; clear n0_ n1_ n2_ n3_ n4_ n5_ n6_ n7_ n8_; (try clear hb); (try clear hb2); (try clear hk); (try clear hi); (try clear ho0)))
   (try simp only [Act.put, u1, u2, u3])
   go_cut [71] (fun v71 wc => ∃ (kq : Nat) (x71_9 : Bool), v71 = .bool x71_9 ∧ Aside0 (posserlaw08_SoapBounds.j0 kq t233 t244 t248 x71_9 a0_0 l0_1 l0_2 = some r) ∧ Aside0 (kq ≤ k) ∧ Aside0 (Kd.R k44 44 wc w.heap.size (fun _ => True) v234 t233) ∧ Aside0 (Kd.R (Kd.int .i64) 3 wc w.heap.size (fun _ => True) v245 t244) ∧ Aside0 (Kd.S (Kd.slice 3 (Kd.int .i64)) 37 wc w.heap.size (fun k_ => some k_ ≠ (v245 : Value).ownBlock) v249 t248) ∧ Aside0 (wc.heap[gb223]? = some (.cells #[.int .i64 a0_0, (.slice A0_1 l0_1.length c0_1), (.slice A0_2 l0_2.length c0_2)] 25 (0, 0))) ∧ Aside0 (Below w.heap.size w wc))
   case first =>
    have H := HC10.out
    clear HC10
    by_cases c26 : t236 = 0
    ·rw [if_pos c26] at H
     have c26b0 : (t236 == 0) = true := beq_iff_eq.mpr c26
     have c26b1 : (t236 != 0) = false := bne_eq_false_iff_eq.mpr c26
     clear c26
     (first | skip)
     by_cases c27 : t247 = 0
     ·rw [if_pos c27] at H
      have c27b0 : (t247 == 0) = true := beq_iff_eq.mpr c27
      have c27b1 : (t247 != 0) = false := bne_eq_false_iff_eq.mpr c27
      clear c27
      by_cases c28 : (t233.length : Int) = a0_0
      ·rw [if_pos c28] at H
       have c28b0 : ((t233.length : Int) == a0_0) = true := beq_iff_eq.mpr c28
       have c28b1 : ((t233.length : Int) != a0_0) = false := bne_eq_false_iff_eq.mpr c28
       clear c28
       have H' := mkA H
       clear H
       obtain ⟨Ao29, co29, eo29⟩ := Kd.R_slice HO235.out
       subst eo29
       have hcz30_0 : w25.cell? ⟨gb223, 0, none⟩ = some (.int .i64 a0_0) := (blk_cell BK223.out 0).trans rfl
       have hcz30_1 : w25.cell? ⟨gb223, 1, none⟩ = some (.slice A0_1 l0_1.length c0_1) := (blk_cell BK223.out 1).trans rfl
       have hcz30_2 : w25.cell? ⟨gb223, 2, none⟩ = some (.slice A0_2 l0_2.length c0_2) := (blk_cell BK223.out 2).trans rfl
       have hfz30_0 := blk_frozen BK223.out 0
       have hfz30_1 := blk_frozen BK223.out 1
       have hfz30_2 := blk_frozen BK223.out 2
       obtain ⟨Ao31, co31, eo31⟩ := Kd.R_slice HO246.out
       subst eo31
       go_wp2
       go_meet
       case rel => exact ⟨_, (((t244.length : Int) != a0_0)), (by first | rfl | (simp; done) | (simp [*]; done)), H', ⟨by first | omega | exact Nat.le_refl _⟩, ⟨by (with_reducible repeat (first | apply Kd.R_alloc)); exact HO235.out⟩, ⟨by (with_reducible repeat (first | apply Kd.R_alloc)); exact HO246.out⟩, ⟨by (with_reducible repeat (first | apply Kd.S_alloc)); exact Kd.S_mono HO250.out (fun _ hk => hk.2)⟩, ⟨by (with_reducible repeat (first | refine blk_drewN ?_ _)); exact BK223.out⟩, ⟨by repeat (with_reducible first | exact HB.out | apply below_alloc | apply pw_below_drewN | apply below_drew1 | refine below_set ?_ GE223.out)⟩⟩
      ·rw [if_neg c28] at H
       have c28b0 : ((t233.length : Int) == a0_0) = false := beq_eq_false_iff_ne.mpr c28
       have c28b1 : ((t233.length : Int) != a0_0) = true := bne_iff_ne.mpr c28
       have H' := mkA H
       clear H
       obtain ⟨Ao32, co32, eo32⟩ := Kd.R_slice HO235.out
       subst eo32
       have hcz33_0 : w25.cell? ⟨gb223, 0, none⟩ = some (.int .i64 a0_0) := (blk_cell BK223.out 0).trans rfl
       have hcz33_1 : w25.cell? ⟨gb223, 1, none⟩ = some (.slice A0_1 l0_1.length c0_1) := (blk_cell BK223.out 1).trans rfl
       have hcz33_2 : w25.cell? ⟨gb223, 2, none⟩ = some (.slice A0_2 l0_2.length c0_2) := (blk_cell BK223.out 2).trans rfl
       have hfz33_0 := blk_frozen BK223.out 0
       have hfz33_1 := blk_frozen BK223.out 1
       have hfz33_2 := blk_frozen BK223.out 2
       go_wp2
       go_meet
       case rel => exact ⟨_, (true), (by first | rfl | (simp; done) | (simp [*]; done)), H', ⟨by first | omega | exact Nat.le_refl _⟩, ⟨by (with_reducible repeat (first | apply Kd.R_alloc)); exact HO235.out⟩, ⟨by (with_reducible repeat (first | apply Kd.R_alloc)); exact HO246.out⟩, ⟨by (with_reducible repeat (first | apply Kd.S_alloc)); exact Kd.S_mono HO250.out (fun _ hk => hk.2)⟩, ⟨by (with_reducible repeat (first | refine blk_drewN ?_ _)); exact BK223.out⟩, ⟨by repeat (with_reducible first | exact HB.out | apply below_alloc | apply pw_below_drewN | apply below_drew1 | refine below_set ?_ GE223.out)⟩⟩
     ·rw [if_neg c27] at H
      have c27b0 : (t247 == 0) = false := beq_eq_false_iff_ne.mpr c27
      have c27b1 : (t247 != 0) = true := bne_iff_ne.mpr c27
      have H' := mkA H
      clear H
      go_wp2
      go_meet
      case rel => exact ⟨_, (true), (by first | rfl | (simp; done) | (simp [*]; done)), H', ⟨by first | omega | exact Nat.le_refl _⟩, ⟨by (with_reducible repeat (first | apply Kd.R_alloc)); exact HO235.out⟩, ⟨by (with_reducible repeat (first | apply Kd.R_alloc)); exact HO246.out⟩, ⟨by (with_reducible repeat (first | apply Kd.S_alloc)); exact Kd.S_mono HO250.out (fun _ hk => hk.2)⟩, ⟨by (with_reducible repeat (first | refine blk_drewN ?_ _)); exact BK223.out⟩, ⟨by repeat (with_reducible first | exact HB.out | apply below_alloc | apply pw_below_drewN | apply below_drew1 | refine below_set ?_ GE223.out)⟩⟩
    ·rw [if_neg c26] at H
     have c26b0 : (t236 == 0) = false := beq_eq_false_iff_ne.mpr c26
     have c26b1 : (t236 != 0) = true := bne_iff_ne.mpr c26
     (first | skip)
     have H' := mkA H
     clear H
     go_wp2
     go_meet
     case rel => exact ⟨_, (true), (by first | rfl | (simp; done) | (simp [*]; done)), H', ⟨by first | omega | exact Nat.le_refl _⟩, ⟨by (with_reducible repeat (first | apply Kd.R_alloc)); exact HO235.out⟩, ⟨by (with_reducible repeat (first | apply Kd.R_alloc)); exact HO246.out⟩, ⟨by (with_reducible repeat (first | apply Kd.S_alloc)); exact Kd.S_mono HO250.out (fun _ hk => hk.2)⟩, ⟨by (with_reducible repeat (first | refine blk_drewN ?_ _)); exact BK223.out⟩, ⟨by repeat (with_reducible first | exact HB.out | apply below_alloc | apply pw_below_drewN | apply below_drew1 | refine below_set ?_ GE223.out)⟩⟩
   case rest =>
    clear HC10
    try clear c2
    try clear p2
    try clear c3
    try clear p6
    try clear c9
    try clear c9b0
    try clear c9b1
    try clear c20
    try clear c22
    try clear c23
    try clear c24
    try clear c25
    try clear c26
    try clear c26b0
    try clear c26b1
    try clear c27
    try clear c27b0
    try clear c27b1
    try clear c28
    try clear c28b0
    try clear c28b1
    try clear hcz12_0
    try clear hcz12_1
    try clear hcz12_2
    try clear hcz14_0
    try clear hcz14_1
    try clear hcz14_2
    try clear hcz19_0
    try clear hcz19_1
    try clear hcz19_2
    try clear hcz24_0
    try clear hcz24_1
    try clear hcz24_2
    try clear hcz30_0
    try clear hcz30_1
    try clear hcz30_2
    try clear hcz33_0
    try clear hcz33_1
    try clear hcz33_2
    try clear hfz12_0
    try clear hfz12_1
    try clear hfz12_2
    try clear hfz14_0
    try clear hfz14_1
    try clear hfz14_2
    try clear hfz19_0
    try clear hfz19_1
    try clear hfz19_2
    try clear hfz24_0
    try clear hfz24_1
    try clear hfz24_2
    try clear hfz30_0
    try clear hfz30_1
    try clear hfz30_2
    try clear hfz33_0
    try clear hfz33_1
    try clear hfz33_2
    obtain ⟨kq, x71_9, rfl, HA, HJ9, HO_3, HO_5, HO_7, BK223, HB⟩ := hcut
    cases kq with
    | zero => exact absurd HA.out (by simp [posserlaw08_SoapBounds.j0])
    | succ kj9 =>
     have H := HA.out
     clear HA
     simp only [posserlaw08_SoapBounds.j0] at H
     by_cases c34 : x71_9 = true
     ·subst c34
      have H1 : (some false) = some r := by rw [if_pos rfl] at H; exact H
      clear H
      have H := H1
      clear H1
      obtain rfl := Option.some.inj H
      go_wp2
      go_ret
      exact ⟨by first | rfl | (simp [errW_none, errW_some] <;> rfl) | (simp [*, errW_none, errW_some] <;> rfl), by repeat (with_reducible first | exact HB.out | apply below_alloc | apply pw_below_drewN | apply below_drew1 | refine below_set ?_ GE223.out)⟩
     ·replace c34 := Bool.eq_false_iff.mpr c34
      subst c34
      have H1 : (posserlaw08_SoapBounds.l0 kj9 t233 t244 t248 0 a0_0 l0_1 l0_2) = some r := by rw [if_neg (show ¬ (false = true) by decide)] at H; exact H
      clear H
      have H := H1
      clear H1
      have H' := mkA H
      clear H
      go_wp2
      go_loopg [9] kj9 (fun kq v9 w' => ∃ (x9_2 : Int), v9 = .int .i64 x9_2 ∧ Aside0 (posserlaw08_SoapBounds.l0 kq t233 t244 t248 x9_2 a0_0 l0_1 l0_2 = some r) ∧ Aside0 (kq ≤ kj9) ∧ Aside0 (Kd.R k44 44 w' w.heap.size (fun _ => True) v234 t233) ∧ Aside0 (Kd.R (Kd.int .i64) 3 w' w.heap.size (fun _ => True) v245 t244) ∧ Aside0 (Kd.S (Kd.slice 3 (Kd.int .i64)) 37 w' w.heap.size (fun k_ => some k_ ≠ (v245 : Value).ownBlock) v249 t248) ∧ Aside0 (w'.heap[gb223]? = some (.cells #[.int .i64 a0_0, (.slice A0_1 l0_1.length c0_1), (.slice A0_2 l0_2.length c0_2)] 25 (0, 0))) ∧ Aside0 (Below w.heap.size w w'))
      case atStart => exact ⟨(0), (by first | rfl | (simp; done) | (simp [*]; done)), H', ⟨Nat.le_refl _⟩, ⟨by (with_reducible repeat (first | apply Kd.R_alloc)); exact HO_3.out⟩, ⟨by (with_reducible repeat (first | apply Kd.R_alloc)); exact HO_5.out⟩, ⟨by (with_reducible repeat (first | apply Kd.S_alloc)); exact HO_7.out⟩, ⟨by (with_reducible repeat (first | refine blk_drewN ?_ _)); exact BK223.out⟩, ⟨by repeat (with_reducible first | exact HB.out | apply below_alloc | apply pw_below_drewN | apply below_drew1 | refine below_set ?_ GE223.out)⟩⟩
      case round =>
       clear H'
       try clear c2
       try clear p2
       try clear c3
       try clear p6
       try clear c9
       try clear c9b0
       try clear c9b1
       try clear c20
       try clear c22
       try clear c23
       try clear c24
       try clear c25
       try clear c26
       try clear c26b0
       try clear c26b1
       try clear c27
       try clear c27b0
       try clear c27b1
       try clear c28
       try clear c28b0
       try clear c28b1
       try clear c34
       try clear hcz12_0
       try clear hcz12_1
       try clear hcz12_2
       try clear hcz14_0
       try clear hcz14_1
       try clear hcz14_2
       try clear hcz19_0
       try clear hcz19_1
       try clear hcz19_2
       try clear hcz24_0
       try clear hcz24_1
       try clear hcz24_2
       try clear hcz30_0
       try clear hcz30_1
       try clear hcz30_2
       try clear hcz33_0
       try clear hcz33_1
       try clear hcz33_2
       try clear hfz12_0
       try clear hfz12_1
       try clear hfz12_2
       try clear hfz14_0
       try clear hfz14_1
       try clear hfz14_2
       try clear hfz19_0
       try clear hfz19_1
       try clear hfz19_2
       try clear hfz24_0
       try clear hfz24_1
       try clear hfz24_2
       try clear hfz30_0
       try clear hfz30_1
       try clear hfz30_2
       try clear hfz33_0
       try clear hfz33_1
       try clear hfz33_2
       try clear p2
       try clear p6
       obtain ⟨x9_2, rfl, HA, HK2, HO_3, HO_5, HO_7, BK223, HB⟩ := hrel
       cases gk with
       | zero => exact absurd HA.out (by simp [posserlaw08_SoapBounds.l0])
       | succ k2 =>
        have H := HA.out
        clear HA
        simp only [posserlaw08_SoapBounds.l0] at H
        by_cases c35 : x9_2 < a0_0
        ·rw [if_pos c35] at H
         have c35b0 : decide (x9_2 < a0_0) = true := decide_eq_true c35
         clear c35
         by_cases c36 : 0 ≤ x9_2
         ·rw [if_pos c36] at H
          have c36b0 : decide (0 ≤ x9_2) = true := decide_eq_true c36
          clear c36
          by_cases c37 : x9_2 < (t233.length : Int)
          ·rw [if_pos c37] at H
           have c37b0 : decide (x9_2 < (t233.length : Int)) = true := decide_eq_true c37
           clear c37
           replace H := Option.bind_eq_some_iff.mp H
           obtain ⟨⟨t255, t256⟩, A380, H⟩ := H
           replace H : ((posserlaw08_to.f t255 t256).bind fun bt257 => (if (!(((rd_T44 t233 x9_2).f0) == bt257.1) || (!(((rd_T44 t233 x9_2).f1) == bt257.2))) = true then (some false) else (if x9_2 < (t244.length : Int) then ((posserref08_Owes.f k2 a0_0 l0_1 l0_2 t248 x9_2).bind fun t260 => (if (rd t244 x9_2) = t260 then (posserlaw08_SoapBounds.l0 k2 t233 t244 t248 (wrap64 (x9_2 + 1)) a0_0 l0_1 l0_2) else (some false))) else (none)))) = some r := H
           have A38 := mkA A380
           clear A380
           replace H := Option.bind_eq_some_iff.mp H
           obtain ⟨⟨t257, t258⟩, A390, H⟩ := H
           replace H : (if (!(((rd_T44 t233 x9_2).f0) == t257) || (!(((rd_T44 t233 x9_2).f1) == t258))) = true then (some false) else (if x9_2 < (t244.length : Int) then ((posserref08_Owes.f k2 a0_0 l0_1 l0_2 t248 x9_2).bind fun t260 => (if (rd t244 x9_2) = t260 then (posserlaw08_SoapBounds.l0 k2 t233 t244 t248 (wrap64 (x9_2 + 1)) a0_0 l0_1 l0_2) else (some false))) else (none))) = some r := H
           have A39 := mkA A390
           clear A390
           by_cases c40 : (!(((rd_T44 t233 x9_2).f0) == t257) || (!(((rd_T44 t233 x9_2).f1) == t258))) = true
           ·rw [if_pos c40] at H
            have c40b0 : (!(((rd_T44 t233 x9_2).f0) == t257) || (!(((rd_T44 t233 x9_2).f1) == t258))) = true := c40
            clear c40
            obtain rfl := Option.some.inj H
            have hcz41_0 : wr.cell? ⟨gb223, 0, none⟩ = some (.int .i64 a0_0) := (blk_cell BK223.out 0).trans rfl
            have hcz41_1 : wr.cell? ⟨gb223, 1, none⟩ = some (.slice A0_1 l0_1.length c0_1) := (blk_cell BK223.out 1).trans rfl
            have hcz41_2 : wr.cell? ⟨gb223, 2, none⟩ = some (.slice A0_2 l0_2.length c0_2) := (blk_cell BK223.out 2).trans rfl
            have hfz41_0 := blk_frozen BK223.out 0
            have hfz41_1 := blk_frozen BK223.out 1
            have hfz41_2 := blk_frozen BK223.out 2
            try go_wp2
            have n0_ := mkA (Kd.R_drew HO_3.out)
            have n1_ := mkA (Kd.R_drew HO_5.out)
            have n2_ := mkA (Kd.S_drew HO_7.out)
            have n3_ := mkA (blk_drew BK223.out)
            have n4_ := mkA (below_drew1 HB.out)
            clear HO_3
            clear HO_5
            clear HO_7
            clear BK223
            clear HB
            have HO_3 := n0_
            have HO_5 := n1_
            have HO_7 := n2_
            have BK223 := n3_
            have HB := n4_
            clear n0_ n1_ n2_ n3_ n4_
            obtain ⟨Ao43, co43, eo43⟩ := Kd.R_slice HO_3.out
            (first | subst eo43)
            have p254 : 0 ≤ (x9_2 : Int) := of_decide_eq_true (by first | (with_reducible assumption) | assumption)
            have q254 : x9_2 < (t233.length : Int) := of_decide_eq_true (by first | (with_reducible assumption) | assumption)
            obtain ⟨ad254, e254, hx254_0, hx254_1⟩ := at_T44 (Kd.R_reads' HO_3.out).2.2 x9_2 p254 q254
            cases e254
            replace p254 := eq_true p254
            replace q254 := eq_true q254
            obtain ⟨Ao44, co44, eo44⟩ := Kd.S_slice HO_7.out
            (first | subst eo44)
            refine start_ (n := 21) (S := fun w' => w'.cell? ⟨gb223, 0, none⟩ = some (.int .i64 a0_0) ∧ w'.cell? ⟨gb223, 1, none⟩ = some (.slice A0_1 l0_1.length c0_1) ∧ w'.cell? ⟨gb223, 2, none⟩ = some (.slice A0_2 l0_2.length c0_2) ∧ w'.cell? (ad254.add ((x9_2).toNat * 2)) = some (.int .i64 ((rd_T44 t233 x9_2).f0)) ∧ w'.cell? ⟨(ad254.add ((x9_2).toNat * 2)).block, (ad254.add ((x9_2).toNat * 2)).off + 1, none⟩ = some (.int .i64 ((rd_T44 t233 x9_2).f1))) (ds := []) #[false, false, false, false, false, false, false, false, false, false, false, false, false, false, false, false, false, false, false, false, false] (by kernel_rfl) rfl rfl ⟨(blk_cell BK223.out 0).trans rfl, (blk_cell BK223.out 1).trans rfl, (blk_cell BK223.out 2).trans rfl, hx254_0, hx254_1⟩ (fun hHeld => ?_); refine with_tabW posserlaw08_SoapBounds.tab13 posserlaw08_SoapBounds.bits13 (fun HT_ HW_ => ?_)
            generalize wr.drew = w42 at HO_3 HO_5 HO_7 BK223 HB hx254_0 hx254_1 hHeld ⊢
            refine pure_ (i := 0) (N := some 78) (v := ?_) (a' := ?_) #[true, false, false, false, false, false, false, false, false, false, false, false, false, false, false, false, false, false, false, false, false] rfl rfl (any_of HT_.out (by kernel_rfl)) (fun _ _ _ h => h) (Or.inl ⟨by rfl, ?_⟩) ?_ ?_
            rotate_left
            ·intro w'
             go_simp
             with_reducible rfl
            rotate_left
            ·simp only [Act.put, List.setIfInBounds_toArray, List.set_cons_zero, List.set_cons_succ, i64_w, i32_w]
             rfl
            refine pure_ (i := 1) (N := some 79) (v := ?_) (a' := ?_) #[true, true, false, false, false, false, false, false, false, false, false, false, false, false, false, false, false, false, false, false, false] rfl rfl (any_of HT_.out (by kernel_rfl)) (fun _ _ _ h => h) (Or.inl ⟨by rfl, ?_⟩) ?_ ?_
            rotate_left
            ·intro w'
             go_simp
             with_reducible rfl
            rotate_left
            ·simp only [Act.put, List.setIfInBounds_toArray, List.set_cons_zero, List.set_cons_succ, i64_w, i32_w]
             rfl
            refine pure_ (i := 2) (N := some 80) (v := ?_) (a' := ?_) #[true, true, true, false, false, false, false, false, false, false, false, false, false, false, false, false, false, false, false, false, false] rfl rfl (any_of HT_.out (by kernel_rfl)) (fun _ _ _ h => h) (Or.inl ⟨by rfl, ?_⟩) ?_ ?_
            rotate_left
            ·intro w'
             go_simp
             with_reducible rfl
            rotate_left
            ·simp only [Act.put, List.setIfInBounds_toArray, List.set_cons_zero, List.set_cons_succ, i64_w, i32_w]
             rfl
            refine pure_ (i := 5) (N := some 83) (v := ?_) (a' := ?_) #[true, true, true, false, false, true, false, false, false, false, false, false, false, false, false, false, false, false, false, false, false] rfl rfl (any_of HT_.out (by kernel_rfl)) (fun _ _ _ h => h) (Or.inl ⟨by rfl, ?_⟩) ?_ ?_
            rotate_left
            ·intro w'
             go_simp
             with_reducible rfl
            rotate_left
            ·simp only [Act.put, List.setIfInBounds_toArray, List.set_cons_zero, List.set_cons_succ, i64_w, i32_w]
             rfl
            refine pure_ (i := 6) (N := some 84) (v := ?_) (a' := ?_) #[true, true, true, false, false, true, true, false, false, false, false, false, false, false, false, false, false, false, false, false, false] rfl rfl (any_of HT_.out (by kernel_rfl)) (fun _ _ _ h => h) (Or.inl ⟨by rfl, ?_⟩) ?_ ?_
            rotate_left
            ·intro w'
             go_simp
             with_reducible rfl
            rotate_left
            ·simp only [Act.put, List.setIfInBounds_toArray, List.set_cons_zero, List.set_cons_succ, i64_w, i32_w]
             rfl
            refine take_ (i := 3) (N := some 81) (v := ?_) (a' := ?_) #[true, true, true, true, false, true, true, false, false, false, false, false, false, false, false, false, false, false, false, false, false] rfl rfl (take_ofW HT_.out HW_.out (by kernel_rfl)) (fun _ _ _ h => h) (Or.inl ⟨by rfl, ?_⟩) hHeld ?_ ?_
            rotate_left
            ·rintro w' ⟨s0, s1, s2, s3, s4⟩
             go_simp
             with_reducible rfl
            rotate_left
            ·simp only [Act.put, List.setIfInBounds_toArray, List.set_cons_zero, List.set_cons_succ, i64_w, i32_w]
             rfl
            refine take_ (i := 4) (N := some 82) (v := ?_) (a' := ?_) #[true, true, true, true, true, true, true, false, false, false, false, false, false, false, false, false, false, false, false, false, false] rfl rfl (take_ofW HT_.out HW_.out (by kernel_rfl)) (fun _ _ _ h => h) (Or.inl ⟨by rfl, ?_⟩) hHeld ?_ ?_
            rotate_left
            ·rintro w' ⟨s0, s1, s2, s3, s4⟩
             go_simp
             with_reducible rfl
            rotate_left
            ·simp only [Act.put, List.setIfInBounds_toArray, List.set_cons_zero, List.set_cons_succ, i64_w, i32_w]
             rfl
            refine one_ (i := 7) (N := some 85) #[true, true, true, true, true, true, true, true, false, false, false, false, false, false, false, false, false, false, false, false, false] rfl rfl (one_of HT_.out (by kernel_rfl)) (by decide) (fun K hK => ?_)
            refine goes_ Try.func27 (by kernel_rfl) rfl #[.agg #[.int .i64 a0_0, .slice A0_1 l0_1.length c0_1, .slice A0_2 l0_2.length c0_2], .slice Ao44 t248.length co44, .int .i64 x9_2] (by rfl) rfl rfl (by (try simp only [List.map_toArray, List.map_cons, List.map_nil]); first | done | rfl | (simp only [List.length_drop, List.length_take]; rfl)) ?_
            with_reducible refine (posserref08_Bounds.calls k2 a0_0 _ _ l0_1 _ _ l0_2 _ _ t248 x9_2 t255 t256 _ ?side1 ?side2 ?side3 ?side4 ?side5 ?side6 A38.out).mono ?_
            (case side1 => repeat (first | exact (Kd.C_below HR0_1.out HB.out)))
            (case side2 => exact HC0_1.out)
            (case side3 => repeat (first | exact (Kd.C_below HR0_2.out HB.out)))
            (case side4 => exact HC0_2.out)
            (case side5 => repeat (first | exact (Kd.S_reads' HO_7.out).2.2))
            (case side6 => exact (Kd.S_reads' HO_7.out).2.1)
            rintro e w45 ⟨rfl, hb⟩
            have HS3_ := (hb.cell (World.block_lt_of_cell? _ _ (hHeld.2.2.2.1))).trans (hHeld.2.2.2.1)
            have HS4_ := (hb.cell (World.block_lt_of_cell? _ _ (hHeld.2.2.2.2))).trans (hHeld.2.2.2.2)
            refine ⟨_, rfl, ?_⟩
            have n0_ := mkA (Kd.R_below (by (with_reducible repeat (first | apply Kd.R_alloc)); exact HO_3.out) hb)
            have n1_ := mkA (Kd.R_below (by (with_reducible repeat (first | apply Kd.R_alloc)); exact HO_5.out) hb)
            have n2_ := mkA (Kd.S_below (by (with_reducible repeat (first | apply Kd.S_alloc)); exact HO_7.out) hb)
            have n3_ := mkA (blk_below (g := gb223) (o := .cells #[.int .i64 a0_0, .slice A0_1 l0_1.length c0_1, .slice A0_2 l0_2.length c0_2] 25 (0, 0)) (by (with_reducible repeat (first | refine blk_drewN ?_ _)); exact BK223.out) hb)
            have n4_ := mkA (below_step (by repeat (with_reducible first | exact HB.out | apply below_alloc | apply pw_below_drewN | apply below_drew1 | refine below_set ?_ GE223.out)) hb)
            clear HO_3
            clear HO_5
            clear HO_7
            clear BK223
            clear HB
            have HO_3 := n0_
            have HO_5 := n1_
            have HO_7 := n2_
            have BK223 := n3_
            have HB := n4_
            clear n0_ n1_ n2_ n3_ n4_
            (try clear hb)
            (try clear hb2)
            (try clear hk)
            (try clear hi)
            refine hK.out _ _ ⟨(blk_cell BK223.out 0).trans rfl, (blk_cell BK223.out 1).trans rfl, (blk_cell BK223.out 2).trans rfl, HS3_, HS4_⟩ (fun hHeld => ?_)
            clear hK K
            refine norm_ (a' := ?_) ?_ ?_
            rotate_left
            ·show Act.put _ (some 85) _ = _
             simp only [Act.put, List.setIfInBounds_toArray, List.set_cons_zero, List.set_cons_succ, i64_w, i32_w]
             rfl
            refine one_ (i := 8) (N := some 86) #[true, true, true, true, true, true, true, true, true, false, false, false, false, false, false, false, false, false, false, false, false] rfl rfl (one_of HT_.out (by kernel_rfl)) (by decide) (fun K hK => ?_)
            refine goes_ Try.func26 (by kernel_rfl) rfl #[.agg #[.int .i64 t255, .int .i64 t256]] (by rfl) rfl rfl (by (try simp only [List.map_toArray, List.map_cons, List.map_nil]); first | done | rfl | (simp only [List.length_drop, List.length_take]; rfl)) ?_
            with_reducible refine (posserlaw08_to.calls t255 t256 t257 t258 _ A39.out).mono ?_
            rintro e w46 ⟨rfl, hb⟩
            have HS3_ := (hb.cell (World.block_lt_of_cell? _ _ (hHeld.2.2.2.1))).trans (hHeld.2.2.2.1)
            have HS4_ := (hb.cell (World.block_lt_of_cell? _ _ (hHeld.2.2.2.2))).trans (hHeld.2.2.2.2)
            refine ⟨_, rfl, ?_⟩
            have n0_ := mkA (Kd.R_below (by (with_reducible repeat (first | apply Kd.R_alloc)); exact HO_3.out) hb)
            have n1_ := mkA (Kd.R_below (by (with_reducible repeat (first | apply Kd.R_alloc)); exact HO_5.out) hb)
            have n2_ := mkA (Kd.S_below (by (with_reducible repeat (first | apply Kd.S_alloc)); exact HO_7.out) hb)
            have n3_ := mkA (blk_below (g := gb223) (o := .cells #[.int .i64 a0_0, .slice A0_1 l0_1.length c0_1, .slice A0_2 l0_2.length c0_2] 25 (0, 0)) (by (with_reducible repeat (first | refine blk_drewN ?_ _)); exact BK223.out) hb)
            have n4_ := mkA (below_step (by repeat (with_reducible first | exact HB.out | apply below_alloc | apply pw_below_drewN | apply below_drew1 | refine below_set ?_ GE223.out)) hb)
            clear HO_3
            clear HO_5
            clear HO_7
            clear BK223
            clear HB
            have HO_3 := n0_
            have HO_5 := n1_
            have HO_7 := n2_
            have BK223 := n3_
            have HB := n4_
            clear n0_ n1_ n2_ n3_ n4_
            (try clear hb)
            (try clear hb2)
            (try clear hk)
            (try clear hi)
            refine hK.out _ _ ⟨(blk_cell BK223.out 0).trans rfl, (blk_cell BK223.out 1).trans rfl, (blk_cell BK223.out 2).trans rfl, HS3_, HS4_⟩ (fun hHeld => ?_)
            clear hK K
            refine norm_ (a' := ?_) ?_ ?_
            rotate_left
            ·show Act.put _ (some 86) _ = _
             simp only [Act.put, List.setIfInBounds_toArray, List.set_cons_zero, List.set_cons_succ, i64_w, i32_w]
             rfl
            refine pure_ (i := 9) (N := some 87) (v := ?_) (a' := ?_) #[true, true, true, true, true, true, true, true, true, true, false, false, false, false, false, false, false, false, false, false, false] rfl rfl (any_of HT_.out (by kernel_rfl)) (fun _ _ _ h => h) (Or.inl ⟨by rfl, ?_⟩) ?_ ?_
            rotate_left
            ·intro w'
             go_simp
             with_reducible rfl
            rotate_left
            ·simp only [Act.put, List.setIfInBounds_toArray, List.set_cons_zero, List.set_cons_succ, i64_w, i32_w]
             rfl
            refine pure_ (i := 10) (N := some 88) (v := ?_) (a' := ?_) #[true, true, true, true, true, true, true, true, true, true, true, false, false, false, false, false, false, false, false, false, false] rfl rfl (any_of HT_.out (by kernel_rfl)) (fun _ _ _ h => h) (Or.inl ⟨by rfl, ?_⟩) ?_ ?_
            rotate_left
            ·intro w'
             go_simp
             with_reducible rfl
            rotate_left
            ·simp only [Act.put, List.setIfInBounds_toArray, List.set_cons_zero, List.set_cons_succ, i64_w, i32_w]
             rfl
            refine pure_ (i := 11) (N := some 89) (v := undef) (a' := ?_) #[true, true, true, true, true, true, true, true, true, true, true, true, false, false, false, false, false, false, false, false, false] rfl rfl (any_of HT_.out (by kernel_rfl)) (fun _ _ _ h => h) (Or.inr ⟨by rfl, rfl⟩) ?_ ?_
            rotate_left
            ·simp only [Act.put, List.setIfInBounds_toArray, List.set_cons_zero, List.set_cons_succ, i64_w, i32_w]
             rfl
            refine pure_ (i := 12) (N := some 90) (v := undef) (a' := ?_) #[true, true, true, true, true, true, true, true, true, true, true, true, true, false, false, false, false, false, false, false, false] rfl rfl (any_of HT_.out (by kernel_rfl)) (fun _ _ _ h => h) (Or.inr ⟨by rfl, rfl⟩) ?_ ?_
            rotate_left
            ·simp only [Act.put, List.setIfInBounds_toArray, List.set_cons_zero, List.set_cons_succ, i64_w, i32_w]
             rfl
            refine pure_ (i := 13) (N := some 91) (v := undef) (a' := ?_) #[true, true, true, true, true, true, true, true, true, true, true, true, true, true, false, false, false, false, false, false, false] rfl rfl (any_of HT_.out (by kernel_rfl)) (fun _ _ _ h => h) (Or.inr ⟨by rfl, rfl⟩) ?_ ?_
            rotate_left
            ·simp only [Act.put, List.setIfInBounds_toArray, List.set_cons_zero, List.set_cons_succ, i64_w, i32_w]
             rfl
            refine pure_ (i := 14) (N := some 92) (v := undef) (a' := ?_) #[true, true, true, true, true, true, true, true, true, true, true, true, true, true, true, false, false, false, false, false, false] rfl rfl (any_of HT_.out (by kernel_rfl)) (fun _ _ _ h => h) (Or.inr ⟨by rfl, rfl⟩) ?_ ?_
            rotate_left
            ·simp only [Act.put, List.setIfInBounds_toArray, List.set_cons_zero, List.set_cons_succ, i64_w, i32_w]
             rfl
            refine pure_ (i := 15) (N := some 93) (v := undef) (a' := ?_) #[true, true, true, true, true, true, true, true, true, true, true, true, true, true, true, true, false, false, false, false, false] rfl rfl (any_of HT_.out (by kernel_rfl)) (fun _ _ _ h => h) (Or.inr ⟨by rfl, rfl⟩) ?_ ?_
            rotate_left
            ·simp only [Act.put, List.setIfInBounds_toArray, List.set_cons_zero, List.set_cons_succ, i64_w, i32_w]
             rfl
            refine pure_ (i := 16) (N := some 94) (v := undef) (a' := ?_) #[true, true, true, true, true, true, true, true, true, true, true, true, true, true, true, true, true, false, false, false, false] rfl rfl (any_of HT_.out (by kernel_rfl)) (fun _ _ _ h => h) (Or.inr ⟨by rfl, rfl⟩) ?_ ?_
            rotate_left
            ·simp only [Act.put, List.setIfInBounds_toArray, List.set_cons_zero, List.set_cons_succ, i64_w, i32_w]
             rfl
            refine pure_ (i := 17) (N := some 95) (v := undef) (a' := ?_) #[true, true, true, true, true, true, true, true, true, true, true, true, true, true, true, true, true, true, false, false, false] rfl rfl (any_of HT_.out (by kernel_rfl)) (fun _ _ _ h => h) (Or.inr ⟨by rfl, rfl⟩) ?_ ?_
            rotate_left
            ·simp only [Act.put, List.setIfInBounds_toArray, List.set_cons_zero, List.set_cons_succ, i64_w, i32_w]
             rfl
            refine pure_ (i := 18) (N := some 96) (v := undef) (a' := ?_) #[true, true, true, true, true, true, true, true, true, true, true, true, true, true, true, true, true, true, true, false, false] rfl rfl (any_of HT_.out (by kernel_rfl)) (fun _ _ _ h => h) (Or.inr ⟨by rfl, rfl⟩) ?_ ?_
            rotate_left
            ·simp only [Act.put, List.setIfInBounds_toArray, List.set_cons_zero, List.set_cons_succ, i64_w, i32_w]
             rfl
            refine pure_ (i := 19) (N := some 97) (v := undef) (a' := ?_) #[true, true, true, true, true, true, true, true, true, true, true, true, true, true, true, true, true, true, true, true, false] rfl rfl (any_of HT_.out (by kernel_rfl)) (fun _ _ _ h => h) (Or.inr ⟨by rfl, rfl⟩) ?_ ?_
            rotate_left
            ·simp only [Act.put, List.setIfInBounds_toArray, List.set_cons_zero, List.set_cons_succ, i64_w, i32_w]
             rfl
            refine pure_ (i := 20) (N := some 98) (v := ?_) (a' := ?_) #[true, true, true, true, true, true, true, true, true, true, true, true, true, true, true, true, true, true, true, true, true] rfl rfl (any_of HT_.out (by kernel_rfl)) (fun _ _ _ h => h) (Or.inl ⟨by rfl, ?_⟩) ?_ ?_
            rotate_left
            ·intro w'
             go_simp
             with_reducible rfl
            rotate_left
            ·simp only [Act.put, List.setIfInBounds_toArray, List.set_cons_zero, List.set_cons_succ, i64_w, i32_w]
             rfl
            refine done_ (done_of HT_.out (by kernel_rfl)) ?_
            try go_wp2
            go_ret
            exact ⟨by first | rfl | (simp [errW_none, errW_some] <;> rfl) | (simp [*, errW_none, errW_some] <;> rfl), by repeat (with_reducible first | exact HB.out | apply below_alloc | apply pw_below_drewN | apply below_drew1 | refine below_set ?_ GE223.out)⟩
           ·rw [if_neg c40] at H
            have c40b0 : (!(((rd_T44 t233 x9_2).f0) == t257) || (!(((rd_T44 t233 x9_2).f1) == t258))) = false := by simpa using c40
            clear c40
            by_cases c47 : x9_2 < (t244.length : Int)
            ·rw [if_pos c47] at H
             have c47b0 : decide (x9_2 < (t244.length : Int)) = true := decide_eq_true c47
             clear c47
             replace H := Option.bind_eq_some_iff.mp H
             obtain ⟨t260, A480, H⟩ := H
             replace H : (if (rd t244 x9_2) = t260 then (posserlaw08_SoapBounds.l0 k2 t233 t244 t248 (wrap64 (x9_2 + 1)) a0_0 l0_1 l0_2) else (some false)) = some r := H
             have A48 := mkA A480
             clear A480
             by_cases c49 : (rd t244 x9_2) = t260
             ·rw [if_pos c49] at H
              have c49b0 : ((rd t244 x9_2) == t260) = true := beq_iff_eq.mpr c49
              have c49b1 : ((rd t244 x9_2) != t260) = false := bne_eq_false_iff_eq.mpr c49
              clear c49
              have H' := mkA H
              clear H
              have hcz50_0 : wr.cell? ⟨gb223, 0, none⟩ = some (.int .i64 a0_0) := (blk_cell BK223.out 0).trans rfl
              have hcz50_1 : wr.cell? ⟨gb223, 1, none⟩ = some (.slice A0_1 l0_1.length c0_1) := (blk_cell BK223.out 1).trans rfl
              have hcz50_2 : wr.cell? ⟨gb223, 2, none⟩ = some (.slice A0_2 l0_2.length c0_2) := (blk_cell BK223.out 2).trans rfl
              have hfz50_0 := blk_frozen BK223.out 0
              have hfz50_1 := blk_frozen BK223.out 1
              have hfz50_2 := blk_frozen BK223.out 2
              try go_wp2
              have n0_ := mkA (Kd.R_drew HO_3.out)
              have n1_ := mkA (Kd.R_drew HO_5.out)
              have n2_ := mkA (Kd.S_drew HO_7.out)
              have n3_ := mkA (blk_drew BK223.out)
              have n4_ := mkA (below_drew1 HB.out)
              clear HO_3
              clear HO_5
              clear HO_7
              clear BK223
              clear HB
              have HO_3 := n0_
              have HO_5 := n1_
              have HO_7 := n2_
              have BK223 := n3_
              have HB := n4_
              clear n0_ n1_ n2_ n3_ n4_
              obtain ⟨Ao52, co52, eo52⟩ := Kd.R_slice HO_3.out
              (first | subst eo52)
              have p254 : 0 ≤ (x9_2 : Int) := of_decide_eq_true (by first | (with_reducible assumption) | assumption)
              have q254 : x9_2 < (t233.length : Int) := of_decide_eq_true (by first | (with_reducible assumption) | assumption)
              obtain ⟨ad254, e254, hx254_0, hx254_1⟩ := at_T44 (Kd.R_reads' HO_3.out).2.2 x9_2 p254 q254
              cases e254
              replace p254 := eq_true p254
              replace q254 := eq_true q254
              obtain ⟨Ao53, co53, eo53⟩ := Kd.S_slice HO_7.out
              (first | subst eo53)
              have p259 : 0 ≤ (x9_2 : Int) := of_decide_eq_true (by first | (with_reducible assumption) | assumption)
              have q259 : x9_2 < (t244.length : Int) := of_decide_eq_true (by first | (with_reducible assumption) | assumption)
              obtain ⟨Aox259, cox259, eox259⟩ := Kd.R_slice HO_5.out
              (first | subst eox259)
              obtain ⟨ad259, e259, hx259_0⟩ := Kd.at_int (Kd.R_reads' HO_5.out).2.2 x9_2 p259 q259
              cases e259
              replace p259 := eq_true p259
              replace q259 := eq_true q259
              refine start_ (n := 21) (S := fun w' => w'.cell? ⟨gb223, 0, none⟩ = some (.int .i64 a0_0) ∧ w'.cell? ⟨gb223, 1, none⟩ = some (.slice A0_1 l0_1.length c0_1) ∧ w'.cell? ⟨gb223, 2, none⟩ = some (.slice A0_2 l0_2.length c0_2) ∧ w'.cell? (ad254.add ((x9_2).toNat * 2)) = some (.int .i64 ((rd_T44 t233 x9_2).f0)) ∧ w'.cell? ⟨(ad254.add ((x9_2).toNat * 2)).block, (ad254.add ((x9_2).toNat * 2)).off + 1, none⟩ = some (.int .i64 ((rd_T44 t233 x9_2).f1)) ∧ w'.cell? (ad259.add (x9_2).toNat) = some (.int .i64 (rd t244 x9_2))) (ds := []) #[false, false, false, false, false, false, false, false, false, false, false, false, false, false, false, false, false, false, false, false, false] (by kernel_rfl) rfl rfl ⟨(blk_cell BK223.out 0).trans rfl, (blk_cell BK223.out 1).trans rfl, (blk_cell BK223.out 2).trans rfl, hx254_0, hx254_1, hx259_0⟩ (fun hHeld => ?_); refine with_tabW posserlaw08_SoapBounds.tab13 posserlaw08_SoapBounds.bits13 (fun HT_ HW_ => ?_)
              generalize wr.drew = w51 at HO_3 HO_5 HO_7 BK223 HB hx254_0 hx254_1 hx259_0 hHeld ⊢
              refine pure_ (i := 0) (N := some 78) (v := ?_) (a' := ?_) #[true, false, false, false, false, false, false, false, false, false, false, false, false, false, false, false, false, false, false, false, false] rfl rfl (any_of HT_.out (by kernel_rfl)) (fun _ _ _ h => h) (Or.inl ⟨by rfl, ?_⟩) ?_ ?_
              rotate_left
              ·intro w'
               go_simp
               with_reducible rfl
              rotate_left
              ·simp only [Act.put, List.setIfInBounds_toArray, List.set_cons_zero, List.set_cons_succ, i64_w, i32_w]
               rfl
              refine pure_ (i := 1) (N := some 79) (v := ?_) (a' := ?_) #[true, true, false, false, false, false, false, false, false, false, false, false, false, false, false, false, false, false, false, false, false] rfl rfl (any_of HT_.out (by kernel_rfl)) (fun _ _ _ h => h) (Or.inl ⟨by rfl, ?_⟩) ?_ ?_
              rotate_left
              ·intro w'
               go_simp
               with_reducible rfl
              rotate_left
              ·simp only [Act.put, List.setIfInBounds_toArray, List.set_cons_zero, List.set_cons_succ, i64_w, i32_w]
               rfl
              refine pure_ (i := 2) (N := some 80) (v := ?_) (a' := ?_) #[true, true, true, false, false, false, false, false, false, false, false, false, false, false, false, false, false, false, false, false, false] rfl rfl (any_of HT_.out (by kernel_rfl)) (fun _ _ _ h => h) (Or.inl ⟨by rfl, ?_⟩) ?_ ?_
              rotate_left
              ·intro w'
               go_simp
               with_reducible rfl
              rotate_left
              ·simp only [Act.put, List.setIfInBounds_toArray, List.set_cons_zero, List.set_cons_succ, i64_w, i32_w]
               rfl
              refine pure_ (i := 5) (N := some 83) (v := ?_) (a' := ?_) #[true, true, true, false, false, true, false, false, false, false, false, false, false, false, false, false, false, false, false, false, false] rfl rfl (any_of HT_.out (by kernel_rfl)) (fun _ _ _ h => h) (Or.inl ⟨by rfl, ?_⟩) ?_ ?_
              rotate_left
              ·intro w'
               go_simp
               with_reducible rfl
              rotate_left
              ·simp only [Act.put, List.setIfInBounds_toArray, List.set_cons_zero, List.set_cons_succ, i64_w, i32_w]
               rfl
              refine pure_ (i := 6) (N := some 84) (v := ?_) (a' := ?_) #[true, true, true, false, false, true, true, false, false, false, false, false, false, false, false, false, false, false, false, false, false] rfl rfl (any_of HT_.out (by kernel_rfl)) (fun _ _ _ h => h) (Or.inl ⟨by rfl, ?_⟩) ?_ ?_
              rotate_left
              ·intro w'
               go_simp
               with_reducible rfl
              rotate_left
              ·simp only [Act.put, List.setIfInBounds_toArray, List.set_cons_zero, List.set_cons_succ, i64_w, i32_w]
               rfl
              refine take_ (i := 3) (N := some 81) (v := ?_) (a' := ?_) #[true, true, true, true, false, true, true, false, false, false, false, false, false, false, false, false, false, false, false, false, false] rfl rfl (take_ofW HT_.out HW_.out (by kernel_rfl)) (fun _ _ _ h => h) (Or.inl ⟨by rfl, ?_⟩) hHeld ?_ ?_
              rotate_left
              ·rintro w' ⟨s0, s1, s2, s3, s4, s5⟩
               go_simp
               with_reducible rfl
              rotate_left
              ·simp only [Act.put, List.setIfInBounds_toArray, List.set_cons_zero, List.set_cons_succ, i64_w, i32_w]
               rfl
              refine take_ (i := 4) (N := some 82) (v := ?_) (a' := ?_) #[true, true, true, true, true, true, true, false, false, false, false, false, false, false, false, false, false, false, false, false, false] rfl rfl (take_ofW HT_.out HW_.out (by kernel_rfl)) (fun _ _ _ h => h) (Or.inl ⟨by rfl, ?_⟩) hHeld ?_ ?_
              rotate_left
              ·rintro w' ⟨s0, s1, s2, s3, s4, s5⟩
               go_simp
               with_reducible rfl
              rotate_left
              ·simp only [Act.put, List.setIfInBounds_toArray, List.set_cons_zero, List.set_cons_succ, i64_w, i32_w]
               rfl
              refine one_ (i := 7) (N := some 85) #[true, true, true, true, true, true, true, true, false, false, false, false, false, false, false, false, false, false, false, false, false] rfl rfl (one_of HT_.out (by kernel_rfl)) (by decide) (fun K hK => ?_)
              refine goes_ Try.func27 (by kernel_rfl) rfl #[.agg #[.int .i64 a0_0, .slice A0_1 l0_1.length c0_1, .slice A0_2 l0_2.length c0_2], .slice Ao53 t248.length co53, .int .i64 x9_2] (by rfl) rfl rfl (by (try simp only [List.map_toArray, List.map_cons, List.map_nil]); first | done | rfl | (simp only [List.length_drop, List.length_take]; rfl)) ?_
              with_reducible refine (posserref08_Bounds.calls k2 a0_0 _ _ l0_1 _ _ l0_2 _ _ t248 x9_2 t255 t256 _ ?side1 ?side2 ?side3 ?side4 ?side5 ?side6 A38.out).mono ?_
              (case side1 => repeat (first | exact (Kd.C_below HR0_1.out HB.out)))
              (case side2 => exact HC0_1.out)
              (case side3 => repeat (first | exact (Kd.C_below HR0_2.out HB.out)))
              (case side4 => exact HC0_2.out)
              (case side5 => repeat (first | exact (Kd.S_reads' HO_7.out).2.2))
              (case side6 => exact (Kd.S_reads' HO_7.out).2.1)
              rintro e w54 ⟨rfl, hb⟩
              have HS3_ := (hb.cell (World.block_lt_of_cell? _ _ (hHeld.2.2.2.1))).trans (hHeld.2.2.2.1)
              have HS4_ := (hb.cell (World.block_lt_of_cell? _ _ (hHeld.2.2.2.2.1))).trans (hHeld.2.2.2.2.1)
              have HS5_ := (hb.cell (World.block_lt_of_cell? _ _ (hHeld.2.2.2.2.2))).trans (hHeld.2.2.2.2.2)
              refine ⟨_, rfl, ?_⟩
              have n0_ := mkA (Kd.R_below (by (with_reducible repeat (first | apply Kd.R_alloc)); exact HO_3.out) hb)
              have n1_ := mkA (Kd.R_below (by (with_reducible repeat (first | apply Kd.R_alloc)); exact HO_5.out) hb)
              have n2_ := mkA (Kd.S_below (by (with_reducible repeat (first | apply Kd.S_alloc)); exact HO_7.out) hb)
              have n3_ := mkA (blk_below (g := gb223) (o := .cells #[.int .i64 a0_0, .slice A0_1 l0_1.length c0_1, .slice A0_2 l0_2.length c0_2] 25 (0, 0)) (by (with_reducible repeat (first | refine blk_drewN ?_ _)); exact BK223.out) hb)
              have n4_ := mkA (below_step (by repeat (with_reducible first | exact HB.out | apply below_alloc | apply pw_below_drewN | apply below_drew1 | refine below_set ?_ GE223.out)) hb)
              clear HO_3
              clear HO_5
              clear HO_7
              clear BK223
              clear HB
              have HO_3 := n0_
              have HO_5 := n1_
              have HO_7 := n2_
              have BK223 := n3_
              have HB := n4_
              clear n0_ n1_ n2_ n3_ n4_
              (try clear hb)
              (try clear hb2)
              (try clear hk)
              (try clear hi)
              refine hK.out _ _ ⟨(blk_cell BK223.out 0).trans rfl, (blk_cell BK223.out 1).trans rfl, (blk_cell BK223.out 2).trans rfl, HS3_, HS4_, HS5_⟩ (fun hHeld => ?_)
              clear hK K
              refine norm_ (a' := ?_) ?_ ?_
              rotate_left
              ·show Act.put _ (some 85) _ = _
               simp only [Act.put, List.setIfInBounds_toArray, List.set_cons_zero, List.set_cons_succ, i64_w, i32_w]
               rfl
              refine one_ (i := 8) (N := some 86) #[true, true, true, true, true, true, true, true, true, false, false, false, false, false, false, false, false, false, false, false, false] rfl rfl (one_of HT_.out (by kernel_rfl)) (by decide) (fun K hK => ?_)
              refine goes_ Try.func26 (by kernel_rfl) rfl #[.agg #[.int .i64 t255, .int .i64 t256]] (by rfl) rfl rfl (by (try simp only [List.map_toArray, List.map_cons, List.map_nil]); first | done | rfl | (simp only [List.length_drop, List.length_take]; rfl)) ?_
              with_reducible refine (posserlaw08_to.calls t255 t256 t257 t258 _ A39.out).mono ?_
              rintro e w55 ⟨rfl, hb⟩
              have HS3_ := (hb.cell (World.block_lt_of_cell? _ _ (hHeld.2.2.2.1))).trans (hHeld.2.2.2.1)
              have HS4_ := (hb.cell (World.block_lt_of_cell? _ _ (hHeld.2.2.2.2.1))).trans (hHeld.2.2.2.2.1)
              have HS5_ := (hb.cell (World.block_lt_of_cell? _ _ (hHeld.2.2.2.2.2))).trans (hHeld.2.2.2.2.2)
              refine ⟨_, rfl, ?_⟩
              have n0_ := mkA (Kd.R_below (by (with_reducible repeat (first | apply Kd.R_alloc)); exact HO_3.out) hb)
              have n1_ := mkA (Kd.R_below (by (with_reducible repeat (first | apply Kd.R_alloc)); exact HO_5.out) hb)
              have n2_ := mkA (Kd.S_below (by (with_reducible repeat (first | apply Kd.S_alloc)); exact HO_7.out) hb)
              have n3_ := mkA (blk_below (g := gb223) (o := .cells #[.int .i64 a0_0, .slice A0_1 l0_1.length c0_1, .slice A0_2 l0_2.length c0_2] 25 (0, 0)) (by (with_reducible repeat (first | refine blk_drewN ?_ _)); exact BK223.out) hb)
              have n4_ := mkA (below_step (by repeat (with_reducible first | exact HB.out | apply below_alloc | apply pw_below_drewN | apply below_drew1 | refine below_set ?_ GE223.out)) hb)
              clear HO_3
              clear HO_5
              clear HO_7
              clear BK223
              clear HB
              have HO_3 := n0_
              have HO_5 := n1_
              have HO_7 := n2_
              have BK223 := n3_
              have HB := n4_
              clear n0_ n1_ n2_ n3_ n4_
              (try clear hb)
              (try clear hb2)
              (try clear hk)
              (try clear hi)
              obtain ⟨Ao56, co56, eo56⟩ := Kd.R_slice HO_5.out
              (injection eo56 with f1_ f2_ f3_; have f4_ := f1_.symm; have f5_ := f3_.symm; clear f1_ f2_ f3_; subst f4_; subst f5_)
              refine hK.out _ _ ⟨(blk_cell BK223.out 0).trans rfl, (blk_cell BK223.out 1).trans rfl, (blk_cell BK223.out 2).trans rfl, HS3_, HS4_, HS5_⟩ (fun hHeld => ?_)
              clear hK K
              refine norm_ (a' := ?_) ?_ ?_
              rotate_left
              ·show Act.put _ (some 86) _ = _
               simp only [Act.put, List.setIfInBounds_toArray, List.set_cons_zero, List.set_cons_succ, i64_w, i32_w]
               rfl
              refine pure_ (i := 9) (N := some 87) (v := ?_) (a' := ?_) #[true, true, true, true, true, true, true, true, true, true, false, false, false, false, false, false, false, false, false, false, false] rfl rfl (any_of HT_.out (by kernel_rfl)) (fun _ _ _ h => h) (Or.inl ⟨by rfl, ?_⟩) ?_ ?_
              rotate_left
              ·intro w'
               go_simp
               with_reducible rfl
              rotate_left
              ·simp only [Act.put, List.setIfInBounds_toArray, List.set_cons_zero, List.set_cons_succ, i64_w, i32_w]
               rfl
              refine pure_ (i := 10) (N := some 88) (v := ?_) (a' := ?_) #[true, true, true, true, true, true, true, true, true, true, true, false, false, false, false, false, false, false, false, false, false] rfl rfl (any_of HT_.out (by kernel_rfl)) (fun _ _ _ h => h) (Or.inl ⟨by rfl, ?_⟩) ?_ ?_
              rotate_left
              ·intro w'
               go_simp
               with_reducible rfl
              rotate_left
              ·simp only [Act.put, List.setIfInBounds_toArray, List.set_cons_zero, List.set_cons_succ, i64_w, i32_w]
               rfl
              refine pure_ (i := 11) (N := some 89) (v := ?_) (a' := ?_) #[true, true, true, true, true, true, true, true, true, true, true, true, false, false, false, false, false, false, false, false, false] rfl rfl (any_of HT_.out (by kernel_rfl)) (fun _ _ _ h => h) (Or.inl ⟨by rfl, ?_⟩) ?_ ?_
              rotate_left
              ·intro w'
               go_simp
               with_reducible rfl
              rotate_left
              ·simp only [Act.put, List.setIfInBounds_toArray, List.set_cons_zero, List.set_cons_succ, i64_w, i32_w]
               rfl
              refine pure_ (i := 12) (N := some 90) (v := ?_) (a' := ?_) #[true, true, true, true, true, true, true, true, true, true, true, true, true, false, false, false, false, false, false, false, false] rfl rfl (any_of HT_.out (by kernel_rfl)) (fun _ _ _ h => h) (Or.inl ⟨by rfl, ?_⟩) ?_ ?_
              rotate_left
              ·intro w'
               go_simp
               with_reducible rfl
              rotate_left
              ·simp only [Act.put, List.setIfInBounds_toArray, List.set_cons_zero, List.set_cons_succ, i64_w, i32_w]
               rfl
              refine pure_ (i := 13) (N := some 91) (v := ?_) (a' := ?_) #[true, true, true, true, true, true, true, true, true, true, true, true, true, true, false, false, false, false, false, false, false] rfl rfl (any_of HT_.out (by kernel_rfl)) (fun _ _ _ h => h) (Or.inl ⟨by rfl, ?_⟩) ?_ ?_
              rotate_left
              ·intro w'
               go_simp
               with_reducible rfl
              rotate_left
              ·simp only [Act.put, List.setIfInBounds_toArray, List.set_cons_zero, List.set_cons_succ, i64_w, i32_w]
               rfl
              refine pure_ (i := 16) (N := some 94) (v := ?_) (a' := ?_) #[true, true, true, true, true, true, true, true, true, true, true, true, true, true, false, false, true, false, false, false, false] rfl rfl (any_of HT_.out (by kernel_rfl)) (fun _ _ _ h => h) (Or.inl ⟨by rfl, ?_⟩) ?_ ?_
              rotate_left
              ·intro w'
               go_simp
               with_reducible rfl
              rotate_left
              ·simp only [Act.put, List.setIfInBounds_toArray, List.set_cons_zero, List.set_cons_succ, i64_w, i32_w]
               rfl
              refine pure_ (i := 17) (N := some 95) (v := ?_) (a' := ?_) #[true, true, true, true, true, true, true, true, true, true, true, true, true, true, false, false, true, true, false, false, false] rfl rfl (any_of HT_.out (by kernel_rfl)) (fun _ _ _ h => h) (Or.inl ⟨by rfl, ?_⟩) ?_ ?_
              rotate_left
              ·intro w'
               go_simp
               with_reducible rfl
              rotate_left
              ·simp only [Act.put, List.setIfInBounds_toArray, List.set_cons_zero, List.set_cons_succ, i64_w, i32_w]
               rfl
              refine take_ (i := 14) (N := some 92) (v := ?_) (a' := ?_) #[true, true, true, true, true, true, true, true, true, true, true, true, true, true, true, false, true, true, false, false, false] rfl rfl (take_ofW HT_.out HW_.out (by kernel_rfl)) (fun _ _ _ h => h) (Or.inl ⟨by rfl, ?_⟩) hHeld ?_ ?_
              rotate_left
              ·rintro w' ⟨s0, s1, s2, s3, s4, s5⟩
               go_simp
               with_reducible rfl
              rotate_left
              ·simp only [Act.put, List.setIfInBounds_toArray, List.set_cons_zero, List.set_cons_succ, i64_w, i32_w]
               rfl
              refine take_ (i := 15) (N := some 93) (v := ?_) (a' := ?_) #[true, true, true, true, true, true, true, true, true, true, true, true, true, true, true, true, true, true, false, false, false] rfl rfl (take_ofW HT_.out HW_.out (by kernel_rfl)) (fun _ _ _ h => h) (Or.inl ⟨by rfl, ?_⟩) hHeld ?_ ?_
              rotate_left
              ·rintro w' ⟨s0, s1, s2, s3, s4, s5⟩
               go_simp
               with_reducible rfl
              rotate_left
              ·simp only [Act.put, List.setIfInBounds_toArray, List.set_cons_zero, List.set_cons_succ, i64_w, i32_w]
               rfl
              refine one_ (i := 18) (N := some 96) #[true, true, true, true, true, true, true, true, true, true, true, true, true, true, true, true, true, true, true, false, false] rfl rfl (one_of HT_.out (by kernel_rfl)) (by decide) (fun K hK => ?_)
              refine goes_ Try.func28 (by kernel_rfl) rfl #[.agg #[.int .i64 a0_0, .slice A0_1 l0_1.length c0_1, .slice A0_2 l0_2.length c0_2], .slice Ao53 t248.length co53, .int .i64 x9_2] (by rfl) rfl rfl (by (try simp only [List.map_toArray, List.map_cons, List.map_nil]); first | done | rfl | (simp only [List.length_drop, List.length_take]; rfl)) ?_
              with_reducible refine (posserref08_Owes.calls k2 a0_0 _ _ l0_1 _ _ l0_2 _ _ t248 x9_2 t260 _ ?side1 ?side2 ?side3 ?side4 ?side5 ?side6 A48.out).mono ?_
              (case side1 => repeat (first | exact (Kd.C_below HR0_1.out HB.out)))
              (case side2 => exact HC0_1.out)
              (case side3 => repeat (first | exact (Kd.C_below HR0_2.out HB.out)))
              (case side4 => exact HC0_2.out)
              (case side5 => repeat (first | exact (Kd.S_reads' HO_7.out).2.2))
              (case side6 => exact (Kd.S_reads' HO_7.out).2.1)
              rintro e w57 ⟨rfl, hb⟩
              have HS3_ := (hb.cell (World.block_lt_of_cell? _ _ (hHeld.2.2.2.1))).trans (hHeld.2.2.2.1)
              have HS4_ := (hb.cell (World.block_lt_of_cell? _ _ (hHeld.2.2.2.2.1))).trans (hHeld.2.2.2.2.1)
              have HS5_ := (hb.cell (World.block_lt_of_cell? _ _ (hHeld.2.2.2.2.2))).trans (hHeld.2.2.2.2.2)
              refine ⟨_, rfl, ?_⟩
              have n0_ := mkA (Kd.R_below (by (with_reducible repeat (first | apply Kd.R_alloc)); exact HO_3.out) hb)
              have n1_ := mkA (Kd.R_below (by (with_reducible repeat (first | apply Kd.R_alloc)); exact HO_5.out) hb)
              have n2_ := mkA (Kd.S_below (by (with_reducible repeat (first | apply Kd.S_alloc)); exact HO_7.out) hb)
              have n3_ := mkA (blk_below (g := gb223) (o := .cells #[.int .i64 a0_0, .slice A0_1 l0_1.length c0_1, .slice A0_2 l0_2.length c0_2] 25 (0, 0)) (by (with_reducible repeat (first | refine blk_drewN ?_ _)); exact BK223.out) hb)
              have n4_ := mkA (below_step (by repeat (with_reducible first | exact HB.out | apply below_alloc | apply pw_below_drewN | apply below_drew1 | refine below_set ?_ GE223.out)) hb)
              clear HO_3
              clear HO_5
              clear HO_7
              clear BK223
              clear HB
              have HO_3 := n0_
              have HO_5 := n1_
              have HO_7 := n2_
              have BK223 := n3_
              have HB := n4_
              clear n0_ n1_ n2_ n3_ n4_
              (try clear hb)
              (try clear hb2)
              (try clear hk)
              (try clear hi)
              refine hK.out _ _ ⟨(blk_cell BK223.out 0).trans rfl, (blk_cell BK223.out 1).trans rfl, (blk_cell BK223.out 2).trans rfl, HS3_, HS4_, HS5_⟩ (fun hHeld => ?_)
              clear hK K
              refine norm_ (a' := ?_) ?_ ?_
              rotate_left
              ·show Act.put _ (some 96) _ = _
               simp only [Act.put, List.setIfInBounds_toArray, List.set_cons_zero, List.set_cons_succ, i64_w, i32_w]
               rfl
              refine pure_ (i := 19) (N := some 97) (v := ?_) (a' := ?_) #[true, true, true, true, true, true, true, true, true, true, true, true, true, true, true, true, true, true, true, true, false] rfl rfl (any_of HT_.out (by kernel_rfl)) (fun _ _ _ h => h) (Or.inl ⟨by rfl, ?_⟩) ?_ ?_
              rotate_left
              ·intro w'
               go_simp
               with_reducible rfl
              rotate_left
              ·simp only [Act.put, List.setIfInBounds_toArray, List.set_cons_zero, List.set_cons_succ, i64_w, i32_w]
               rfl
              refine pure_ (i := 20) (N := some 98) (v := ?_) (a' := ?_) #[true, true, true, true, true, true, true, true, true, true, true, true, true, true, true, true, true, true, true, true, true] rfl rfl (any_of HT_.out (by kernel_rfl)) (fun _ _ _ h => h) (Or.inl ⟨by rfl, ?_⟩) ?_ ?_
              rotate_left
              ·intro w'
               go_simp
               with_reducible rfl
              rotate_left
              ·simp only [Act.put, List.setIfInBounds_toArray, List.set_cons_zero, List.set_cons_succ, i64_w, i32_w]
               rfl
              refine done_ (done_of HT_.out (by kernel_rfl)) ?_
              try go_wp2
              go_roundg k2
              case measure => have := HJ9.out; have := HK2.out; omega
              case rel => exact ⟨(wrap64 (x9_2 + 1)), (by first | rfl | (simp; done) | (simp [*]; done)), H', ⟨by have := HJ9.out; have := HK2.out; omega⟩, ⟨by (with_reducible repeat (first | apply Kd.R_alloc)); exact HO_3.out⟩, ⟨by (with_reducible repeat (first | apply Kd.R_alloc)); exact HO_5.out⟩, ⟨by (with_reducible repeat (first | apply Kd.S_alloc)); exact HO_7.out⟩, ⟨by (with_reducible repeat (first | refine blk_drewN ?_ _)); exact BK223.out⟩, ⟨by repeat (with_reducible first | exact HB.out | apply below_alloc | apply pw_below_drewN | apply below_drew1 | refine below_set ?_ GE223.out)⟩⟩
             ·rw [if_neg c49] at H
              have c49b0 : ((rd t244 x9_2) == t260) = false := beq_eq_false_iff_ne.mpr c49
              have c49b1 : ((rd t244 x9_2) != t260) = true := bne_iff_ne.mpr c49
              obtain rfl := Option.some.inj H
              have hcz58_0 : wr.cell? ⟨gb223, 0, none⟩ = some (.int .i64 a0_0) := (blk_cell BK223.out 0).trans rfl
              have hcz58_1 : wr.cell? ⟨gb223, 1, none⟩ = some (.slice A0_1 l0_1.length c0_1) := (blk_cell BK223.out 1).trans rfl
              have hcz58_2 : wr.cell? ⟨gb223, 2, none⟩ = some (.slice A0_2 l0_2.length c0_2) := (blk_cell BK223.out 2).trans rfl
              have hfz58_0 := blk_frozen BK223.out 0
              have hfz58_1 := blk_frozen BK223.out 1
              have hfz58_2 := blk_frozen BK223.out 2
              try go_wp2
              have n0_ := mkA (Kd.R_drew HO_3.out)
              have n1_ := mkA (Kd.R_drew HO_5.out)
              have n2_ := mkA (Kd.S_drew HO_7.out)
              have n3_ := mkA (blk_drew BK223.out)
              have n4_ := mkA (below_drew1 HB.out)
              clear HO_3
              clear HO_5
              clear HO_7
              clear BK223
              clear HB
              have HO_3 := n0_
              have HO_5 := n1_
              have HO_7 := n2_
              have BK223 := n3_
              have HB := n4_
              clear n0_ n1_ n2_ n3_ n4_
              obtain ⟨Ao60, co60, eo60⟩ := Kd.R_slice HO_3.out
              (first | subst eo60)
              have p254 : 0 ≤ (x9_2 : Int) := of_decide_eq_true (by first | (with_reducible assumption) | assumption)
              have q254 : x9_2 < (t233.length : Int) := of_decide_eq_true (by first | (with_reducible assumption) | assumption)
              obtain ⟨ad254, e254, hx254_0, hx254_1⟩ := at_T44 (Kd.R_reads' HO_3.out).2.2 x9_2 p254 q254
              cases e254
              replace p254 := eq_true p254
              replace q254 := eq_true q254
              obtain ⟨Ao61, co61, eo61⟩ := Kd.S_slice HO_7.out
              (first | subst eo61)
              have p259 : 0 ≤ (x9_2 : Int) := of_decide_eq_true (by first | (with_reducible assumption) | assumption)
              have q259 : x9_2 < (t244.length : Int) := of_decide_eq_true (by first | (with_reducible assumption) | assumption)
              obtain ⟨Aox259, cox259, eox259⟩ := Kd.R_slice HO_5.out
              (first | subst eox259)
              obtain ⟨ad259, e259, hx259_0⟩ := Kd.at_int (Kd.R_reads' HO_5.out).2.2 x9_2 p259 q259
              cases e259
              replace p259 := eq_true p259
              replace q259 := eq_true q259
              refine start_ (n := 21) (S := fun w' => w'.cell? ⟨gb223, 0, none⟩ = some (.int .i64 a0_0) ∧ w'.cell? ⟨gb223, 1, none⟩ = some (.slice A0_1 l0_1.length c0_1) ∧ w'.cell? ⟨gb223, 2, none⟩ = some (.slice A0_2 l0_2.length c0_2) ∧ w'.cell? (ad254.add ((x9_2).toNat * 2)) = some (.int .i64 ((rd_T44 t233 x9_2).f0)) ∧ w'.cell? ⟨(ad254.add ((x9_2).toNat * 2)).block, (ad254.add ((x9_2).toNat * 2)).off + 1, none⟩ = some (.int .i64 ((rd_T44 t233 x9_2).f1)) ∧ w'.cell? (ad259.add (x9_2).toNat) = some (.int .i64 (rd t244 x9_2))) (ds := []) #[false, false, false, false, false, false, false, false, false, false, false, false, false, false, false, false, false, false, false, false, false] (by kernel_rfl) rfl rfl ⟨(blk_cell BK223.out 0).trans rfl, (blk_cell BK223.out 1).trans rfl, (blk_cell BK223.out 2).trans rfl, hx254_0, hx254_1, hx259_0⟩ (fun hHeld => ?_); refine with_tabW posserlaw08_SoapBounds.tab13 posserlaw08_SoapBounds.bits13 (fun HT_ HW_ => ?_)
              generalize wr.drew = w59 at HO_3 HO_5 HO_7 BK223 HB hx254_0 hx254_1 hx259_0 hHeld ⊢
              refine pure_ (i := 0) (N := some 78) (v := ?_) (a' := ?_) #[true, false, false, false, false, false, false, false, false, false, false, false, false, false, false, false, false, false, false, false, false] rfl rfl (any_of HT_.out (by kernel_rfl)) (fun _ _ _ h => h) (Or.inl ⟨by rfl, ?_⟩) ?_ ?_
              rotate_left
              ·intro w'
               go_simp
               with_reducible rfl
              rotate_left
              ·simp only [Act.put, List.setIfInBounds_toArray, List.set_cons_zero, List.set_cons_succ, i64_w, i32_w]
               rfl
              refine pure_ (i := 1) (N := some 79) (v := ?_) (a' := ?_) #[true, true, false, false, false, false, false, false, false, false, false, false, false, false, false, false, false, false, false, false, false] rfl rfl (any_of HT_.out (by kernel_rfl)) (fun _ _ _ h => h) (Or.inl ⟨by rfl, ?_⟩) ?_ ?_
              rotate_left
              ·intro w'
               go_simp
               with_reducible rfl
              rotate_left
              ·simp only [Act.put, List.setIfInBounds_toArray, List.set_cons_zero, List.set_cons_succ, i64_w, i32_w]
               rfl
              refine pure_ (i := 2) (N := some 80) (v := ?_) (a' := ?_) #[true, true, true, false, false, false, false, false, false, false, false, false, false, false, false, false, false, false, false, false, false] rfl rfl (any_of HT_.out (by kernel_rfl)) (fun _ _ _ h => h) (Or.inl ⟨by rfl, ?_⟩) ?_ ?_
              rotate_left
              ·intro w'
               go_simp
               with_reducible rfl
              rotate_left
              ·simp only [Act.put, List.setIfInBounds_toArray, List.set_cons_zero, List.set_cons_succ, i64_w, i32_w]
               rfl
              refine pure_ (i := 5) (N := some 83) (v := ?_) (a' := ?_) #[true, true, true, false, false, true, false, false, false, false, false, false, false, false, false, false, false, false, false, false, false] rfl rfl (any_of HT_.out (by kernel_rfl)) (fun _ _ _ h => h) (Or.inl ⟨by rfl, ?_⟩) ?_ ?_
              rotate_left
              ·intro w'
               go_simp
               with_reducible rfl
              rotate_left
              ·simp only [Act.put, List.setIfInBounds_toArray, List.set_cons_zero, List.set_cons_succ, i64_w, i32_w]
               rfl
              refine pure_ (i := 6) (N := some 84) (v := ?_) (a' := ?_) #[true, true, true, false, false, true, true, false, false, false, false, false, false, false, false, false, false, false, false, false, false] rfl rfl (any_of HT_.out (by kernel_rfl)) (fun _ _ _ h => h) (Or.inl ⟨by rfl, ?_⟩) ?_ ?_
              rotate_left
              ·intro w'
               go_simp
               with_reducible rfl
              rotate_left
              ·simp only [Act.put, List.setIfInBounds_toArray, List.set_cons_zero, List.set_cons_succ, i64_w, i32_w]
               rfl
              refine take_ (i := 3) (N := some 81) (v := ?_) (a' := ?_) #[true, true, true, true, false, true, true, false, false, false, false, false, false, false, false, false, false, false, false, false, false] rfl rfl (take_ofW HT_.out HW_.out (by kernel_rfl)) (fun _ _ _ h => h) (Or.inl ⟨by rfl, ?_⟩) hHeld ?_ ?_
              rotate_left
              ·rintro w' ⟨s0, s1, s2, s3, s4, s5⟩
               go_simp
               with_reducible rfl
              rotate_left
              ·simp only [Act.put, List.setIfInBounds_toArray, List.set_cons_zero, List.set_cons_succ, i64_w, i32_w]
               rfl
              refine take_ (i := 4) (N := some 82) (v := ?_) (a' := ?_) #[true, true, true, true, true, true, true, false, false, false, false, false, false, false, false, false, false, false, false, false, false] rfl rfl (take_ofW HT_.out HW_.out (by kernel_rfl)) (fun _ _ _ h => h) (Or.inl ⟨by rfl, ?_⟩) hHeld ?_ ?_
              rotate_left
              ·rintro w' ⟨s0, s1, s2, s3, s4, s5⟩
               go_simp
               with_reducible rfl
              rotate_left
              ·simp only [Act.put, List.setIfInBounds_toArray, List.set_cons_zero, List.set_cons_succ, i64_w, i32_w]
               rfl
              refine one_ (i := 7) (N := some 85) #[true, true, true, true, true, true, true, true, false, false, false, false, false, false, false, false, false, false, false, false, false] rfl rfl (one_of HT_.out (by kernel_rfl)) (by decide) (fun K hK => ?_)
              refine goes_ Try.func27 (by kernel_rfl) rfl #[.agg #[.int .i64 a0_0, .slice A0_1 l0_1.length c0_1, .slice A0_2 l0_2.length c0_2], .slice Ao61 t248.length co61, .int .i64 x9_2] (by rfl) rfl rfl (by (try simp only [List.map_toArray, List.map_cons, List.map_nil]); first | done | rfl | (simp only [List.length_drop, List.length_take]; rfl)) ?_
              with_reducible refine (posserref08_Bounds.calls k2 a0_0 _ _ l0_1 _ _ l0_2 _ _ t248 x9_2 t255 t256 _ ?side1 ?side2 ?side3 ?side4 ?side5 ?side6 A38.out).mono ?_
              (case side1 => repeat (first | exact (Kd.C_below HR0_1.out HB.out)))
              (case side2 => exact HC0_1.out)
              (case side3 => repeat (first | exact (Kd.C_below HR0_2.out HB.out)))
              (case side4 => exact HC0_2.out)
              (case side5 => repeat (first | exact (Kd.S_reads' HO_7.out).2.2))
              (case side6 => exact (Kd.S_reads' HO_7.out).2.1)
              rintro e w62 ⟨rfl, hb⟩
              have HS3_ := (hb.cell (World.block_lt_of_cell? _ _ (hHeld.2.2.2.1))).trans (hHeld.2.2.2.1)
              have HS4_ := (hb.cell (World.block_lt_of_cell? _ _ (hHeld.2.2.2.2.1))).trans (hHeld.2.2.2.2.1)
              have HS5_ := (hb.cell (World.block_lt_of_cell? _ _ (hHeld.2.2.2.2.2))).trans (hHeld.2.2.2.2.2)
              refine ⟨_, rfl, ?_⟩
              have n0_ := mkA (Kd.R_below (by (with_reducible repeat (first | apply Kd.R_alloc)); exact HO_3.out) hb)
              have n1_ := mkA (Kd.R_below (by (with_reducible repeat (first | apply Kd.R_alloc)); exact HO_5.out) hb)
              have n2_ := mkA (Kd.S_below (by (with_reducible repeat (first | apply Kd.S_alloc)); exact HO_7.out) hb)
              have n3_ := mkA (blk_below (g := gb223) (o := .cells #[.int .i64 a0_0, .slice A0_1 l0_1.length c0_1, .slice A0_2 l0_2.length c0_2] 25 (0, 0)) (by (with_reducible repeat (first | refine blk_drewN ?_ _)); exact BK223.out) hb)
              have n4_ := mkA (below_step (by repeat (with_reducible first | exact HB.out | apply below_alloc | apply pw_below_drewN | apply below_drew1 | refine below_set ?_ GE223.out)) hb)
              clear HO_3
              clear HO_5
              clear HO_7
              clear BK223
              clear HB
              have HO_3 := n0_
              have HO_5 := n1_
              have HO_7 := n2_
              have BK223 := n3_
              have HB := n4_
              clear n0_ n1_ n2_ n3_ n4_
              (try clear hb)
              (try clear hb2)
              (try clear hk)
              (try clear hi)
              refine hK.out _ _ ⟨(blk_cell BK223.out 0).trans rfl, (blk_cell BK223.out 1).trans rfl, (blk_cell BK223.out 2).trans rfl, HS3_, HS4_, HS5_⟩ (fun hHeld => ?_)
              clear hK K
              refine norm_ (a' := ?_) ?_ ?_
              rotate_left
              ·show Act.put _ (some 85) _ = _
               simp only [Act.put, List.setIfInBounds_toArray, List.set_cons_zero, List.set_cons_succ, i64_w, i32_w]
               rfl
              refine one_ (i := 8) (N := some 86) #[true, true, true, true, true, true, true, true, true, false, false, false, false, false, false, false, false, false, false, false, false] rfl rfl (one_of HT_.out (by kernel_rfl)) (by decide) (fun K hK => ?_)
              refine goes_ Try.func26 (by kernel_rfl) rfl #[.agg #[.int .i64 t255, .int .i64 t256]] (by rfl) rfl rfl (by (try simp only [List.map_toArray, List.map_cons, List.map_nil]); first | done | rfl | (simp only [List.length_drop, List.length_take]; rfl)) ?_
              with_reducible refine (posserlaw08_to.calls t255 t256 t257 t258 _ A39.out).mono ?_
              rintro e w63 ⟨rfl, hb⟩
              have HS3_ := (hb.cell (World.block_lt_of_cell? _ _ (hHeld.2.2.2.1))).trans (hHeld.2.2.2.1)
              have HS4_ := (hb.cell (World.block_lt_of_cell? _ _ (hHeld.2.2.2.2.1))).trans (hHeld.2.2.2.2.1)
              have HS5_ := (hb.cell (World.block_lt_of_cell? _ _ (hHeld.2.2.2.2.2))).trans (hHeld.2.2.2.2.2)
              refine ⟨_, rfl, ?_⟩
              have n0_ := mkA (Kd.R_below (by (with_reducible repeat (first | apply Kd.R_alloc)); exact HO_3.out) hb)
              have n1_ := mkA (Kd.R_below (by (with_reducible repeat (first | apply Kd.R_alloc)); exact HO_5.out) hb)
              have n2_ := mkA (Kd.S_below (by (with_reducible repeat (first | apply Kd.S_alloc)); exact HO_7.out) hb)
              have n3_ := mkA (blk_below (g := gb223) (o := .cells #[.int .i64 a0_0, .slice A0_1 l0_1.length c0_1, .slice A0_2 l0_2.length c0_2] 25 (0, 0)) (by (with_reducible repeat (first | refine blk_drewN ?_ _)); exact BK223.out) hb)
              have n4_ := mkA (below_step (by repeat (with_reducible first | exact HB.out | apply below_alloc | apply pw_below_drewN | apply below_drew1 | refine below_set ?_ GE223.out)) hb)
              clear HO_3
              clear HO_5
              clear HO_7
              clear BK223
              clear HB
              have HO_3 := n0_
              have HO_5 := n1_
              have HO_7 := n2_
              have BK223 := n3_
              have HB := n4_
              clear n0_ n1_ n2_ n3_ n4_
              (try clear hb)
              (try clear hb2)
              (try clear hk)
              (try clear hi)
              obtain ⟨Ao64, co64, eo64⟩ := Kd.R_slice HO_5.out
              (injection eo64 with f1_ f2_ f3_; have f4_ := f1_.symm; have f5_ := f3_.symm; clear f1_ f2_ f3_; subst f4_; subst f5_)
              refine hK.out _ _ ⟨(blk_cell BK223.out 0).trans rfl, (blk_cell BK223.out 1).trans rfl, (blk_cell BK223.out 2).trans rfl, HS3_, HS4_, HS5_⟩ (fun hHeld => ?_)
              clear hK K
              refine norm_ (a' := ?_) ?_ ?_
              rotate_left
              ·show Act.put _ (some 86) _ = _
               simp only [Act.put, List.setIfInBounds_toArray, List.set_cons_zero, List.set_cons_succ, i64_w, i32_w]
               rfl
              refine pure_ (i := 9) (N := some 87) (v := ?_) (a' := ?_) #[true, true, true, true, true, true, true, true, true, true, false, false, false, false, false, false, false, false, false, false, false] rfl rfl (any_of HT_.out (by kernel_rfl)) (fun _ _ _ h => h) (Or.inl ⟨by rfl, ?_⟩) ?_ ?_
              rotate_left
              ·intro w'
               go_simp
               with_reducible rfl
              rotate_left
              ·simp only [Act.put, List.setIfInBounds_toArray, List.set_cons_zero, List.set_cons_succ, i64_w, i32_w]
               rfl
              refine pure_ (i := 10) (N := some 88) (v := ?_) (a' := ?_) #[true, true, true, true, true, true, true, true, true, true, true, false, false, false, false, false, false, false, false, false, false] rfl rfl (any_of HT_.out (by kernel_rfl)) (fun _ _ _ h => h) (Or.inl ⟨by rfl, ?_⟩) ?_ ?_
              rotate_left
              ·intro w'
               go_simp
               with_reducible rfl
              rotate_left
              ·simp only [Act.put, List.setIfInBounds_toArray, List.set_cons_zero, List.set_cons_succ, i64_w, i32_w]
               rfl
              refine pure_ (i := 11) (N := some 89) (v := ?_) (a' := ?_) #[true, true, true, true, true, true, true, true, true, true, true, true, false, false, false, false, false, false, false, false, false] rfl rfl (any_of HT_.out (by kernel_rfl)) (fun _ _ _ h => h) (Or.inl ⟨by rfl, ?_⟩) ?_ ?_
              rotate_left
              ·intro w'
               go_simp
               with_reducible rfl
              rotate_left
              ·simp only [Act.put, List.setIfInBounds_toArray, List.set_cons_zero, List.set_cons_succ, i64_w, i32_w]
               rfl
              refine pure_ (i := 12) (N := some 90) (v := ?_) (a' := ?_) #[true, true, true, true, true, true, true, true, true, true, true, true, true, false, false, false, false, false, false, false, false] rfl rfl (any_of HT_.out (by kernel_rfl)) (fun _ _ _ h => h) (Or.inl ⟨by rfl, ?_⟩) ?_ ?_
              rotate_left
              ·intro w'
               go_simp
               with_reducible rfl
              rotate_left
              ·simp only [Act.put, List.setIfInBounds_toArray, List.set_cons_zero, List.set_cons_succ, i64_w, i32_w]
               rfl
              refine pure_ (i := 13) (N := some 91) (v := ?_) (a' := ?_) #[true, true, true, true, true, true, true, true, true, true, true, true, true, true, false, false, false, false, false, false, false] rfl rfl (any_of HT_.out (by kernel_rfl)) (fun _ _ _ h => h) (Or.inl ⟨by rfl, ?_⟩) ?_ ?_
              rotate_left
              ·intro w'
               go_simp
               with_reducible rfl
              rotate_left
              ·simp only [Act.put, List.setIfInBounds_toArray, List.set_cons_zero, List.set_cons_succ, i64_w, i32_w]
               rfl
              refine pure_ (i := 16) (N := some 94) (v := ?_) (a' := ?_) #[true, true, true, true, true, true, true, true, true, true, true, true, true, true, false, false, true, false, false, false, false] rfl rfl (any_of HT_.out (by kernel_rfl)) (fun _ _ _ h => h) (Or.inl ⟨by rfl, ?_⟩) ?_ ?_
              rotate_left
              ·intro w'
               go_simp
               with_reducible rfl
              rotate_left
              ·simp only [Act.put, List.setIfInBounds_toArray, List.set_cons_zero, List.set_cons_succ, i64_w, i32_w]
               rfl
              refine pure_ (i := 17) (N := some 95) (v := ?_) (a' := ?_) #[true, true, true, true, true, true, true, true, true, true, true, true, true, true, false, false, true, true, false, false, false] rfl rfl (any_of HT_.out (by kernel_rfl)) (fun _ _ _ h => h) (Or.inl ⟨by rfl, ?_⟩) ?_ ?_
              rotate_left
              ·intro w'
               go_simp
               with_reducible rfl
              rotate_left
              ·simp only [Act.put, List.setIfInBounds_toArray, List.set_cons_zero, List.set_cons_succ, i64_w, i32_w]
               rfl
              refine take_ (i := 14) (N := some 92) (v := ?_) (a' := ?_) #[true, true, true, true, true, true, true, true, true, true, true, true, true, true, true, false, true, true, false, false, false] rfl rfl (take_ofW HT_.out HW_.out (by kernel_rfl)) (fun _ _ _ h => h) (Or.inl ⟨by rfl, ?_⟩) hHeld ?_ ?_
              rotate_left
              ·rintro w' ⟨s0, s1, s2, s3, s4, s5⟩
               go_simp
               with_reducible rfl
              rotate_left
              ·simp only [Act.put, List.setIfInBounds_toArray, List.set_cons_zero, List.set_cons_succ, i64_w, i32_w]
               rfl
              refine take_ (i := 15) (N := some 93) (v := ?_) (a' := ?_) #[true, true, true, true, true, true, true, true, true, true, true, true, true, true, true, true, true, true, false, false, false] rfl rfl (take_ofW HT_.out HW_.out (by kernel_rfl)) (fun _ _ _ h => h) (Or.inl ⟨by rfl, ?_⟩) hHeld ?_ ?_
              rotate_left
              ·rintro w' ⟨s0, s1, s2, s3, s4, s5⟩
               go_simp
               with_reducible rfl
              rotate_left
              ·simp only [Act.put, List.setIfInBounds_toArray, List.set_cons_zero, List.set_cons_succ, i64_w, i32_w]
               rfl
              refine one_ (i := 18) (N := some 96) #[true, true, true, true, true, true, true, true, true, true, true, true, true, true, true, true, true, true, true, false, false] rfl rfl (one_of HT_.out (by kernel_rfl)) (by decide) (fun K hK => ?_)
              refine goes_ Try.func28 (by kernel_rfl) rfl #[.agg #[.int .i64 a0_0, .slice A0_1 l0_1.length c0_1, .slice A0_2 l0_2.length c0_2], .slice Ao61 t248.length co61, .int .i64 x9_2] (by rfl) rfl rfl (by (try simp only [List.map_toArray, List.map_cons, List.map_nil]); first | done | rfl | (simp only [List.length_drop, List.length_take]; rfl)) ?_
              with_reducible refine (posserref08_Owes.calls k2 a0_0 _ _ l0_1 _ _ l0_2 _ _ t248 x9_2 t260 _ ?side1 ?side2 ?side3 ?side4 ?side5 ?side6 A48.out).mono ?_
              (case side1 => repeat (first | exact (Kd.C_below HR0_1.out HB.out)))
              (case side2 => exact HC0_1.out)
              (case side3 => repeat (first | exact (Kd.C_below HR0_2.out HB.out)))
              (case side4 => exact HC0_2.out)
              (case side5 => repeat (first | exact (Kd.S_reads' HO_7.out).2.2))
              (case side6 => exact (Kd.S_reads' HO_7.out).2.1)
              rintro e w65 ⟨rfl, hb⟩
              have HS3_ := (hb.cell (World.block_lt_of_cell? _ _ (hHeld.2.2.2.1))).trans (hHeld.2.2.2.1)
              have HS4_ := (hb.cell (World.block_lt_of_cell? _ _ (hHeld.2.2.2.2.1))).trans (hHeld.2.2.2.2.1)
              have HS5_ := (hb.cell (World.block_lt_of_cell? _ _ (hHeld.2.2.2.2.2))).trans (hHeld.2.2.2.2.2)
              refine ⟨_, rfl, ?_⟩
              have n0_ := mkA (Kd.R_below (by (with_reducible repeat (first | apply Kd.R_alloc)); exact HO_3.out) hb)
              have n1_ := mkA (Kd.R_below (by (with_reducible repeat (first | apply Kd.R_alloc)); exact HO_5.out) hb)
              have n2_ := mkA (Kd.S_below (by (with_reducible repeat (first | apply Kd.S_alloc)); exact HO_7.out) hb)
              have n3_ := mkA (blk_below (g := gb223) (o := .cells #[.int .i64 a0_0, .slice A0_1 l0_1.length c0_1, .slice A0_2 l0_2.length c0_2] 25 (0, 0)) (by (with_reducible repeat (first | refine blk_drewN ?_ _)); exact BK223.out) hb)
              have n4_ := mkA (below_step (by repeat (with_reducible first | exact HB.out | apply below_alloc | apply pw_below_drewN | apply below_drew1 | refine below_set ?_ GE223.out)) hb)
              clear HO_3
              clear HO_5
              clear HO_7
              clear BK223
              clear HB
              have HO_3 := n0_
              have HO_5 := n1_
              have HO_7 := n2_
              have BK223 := n3_
              have HB := n4_
              clear n0_ n1_ n2_ n3_ n4_
              (try clear hb)
              (try clear hb2)
              (try clear hk)
              (try clear hi)
              refine hK.out _ _ ⟨(blk_cell BK223.out 0).trans rfl, (blk_cell BK223.out 1).trans rfl, (blk_cell BK223.out 2).trans rfl, HS3_, HS4_, HS5_⟩ (fun hHeld => ?_)
              clear hK K
              refine norm_ (a' := ?_) ?_ ?_
              rotate_left
              ·show Act.put _ (some 96) _ = _
               simp only [Act.put, List.setIfInBounds_toArray, List.set_cons_zero, List.set_cons_succ, i64_w, i32_w]
               rfl
              refine pure_ (i := 19) (N := some 97) (v := ?_) (a' := ?_) #[true, true, true, true, true, true, true, true, true, true, true, true, true, true, true, true, true, true, true, true, false] rfl rfl (any_of HT_.out (by kernel_rfl)) (fun _ _ _ h => h) (Or.inl ⟨by rfl, ?_⟩) ?_ ?_
              rotate_left
              ·intro w'
               go_simp
               with_reducible rfl
              rotate_left
              ·simp only [Act.put, List.setIfInBounds_toArray, List.set_cons_zero, List.set_cons_succ, i64_w, i32_w]
               rfl
              refine pure_ (i := 20) (N := some 98) (v := ?_) (a' := ?_) #[true, true, true, true, true, true, true, true, true, true, true, true, true, true, true, true, true, true, true, true, true] rfl rfl (any_of HT_.out (by kernel_rfl)) (fun _ _ _ h => h) (Or.inl ⟨by rfl, ?_⟩) ?_ ?_
              rotate_left
              ·intro w'
               go_simp
               with_reducible rfl
              rotate_left
              ·simp only [Act.put, List.setIfInBounds_toArray, List.set_cons_zero, List.set_cons_succ, i64_w, i32_w]
               rfl
              refine done_ (done_of HT_.out (by kernel_rfl)) ?_
              try go_wp2
              go_ret
              exact ⟨by first | rfl | (simp [errW_none, errW_some] <;> rfl) | (simp [*, errW_none, errW_some] <;> rfl), by repeat (with_reducible first | exact HB.out | apply below_alloc | apply pw_below_drewN | apply below_drew1 | refine below_set ?_ GE223.out)⟩
            ·rw [if_neg c47] at H
             exact absurd H (by simp)
          ·rw [if_neg c37] at H
           exact absurd H (by simp)
         ·rw [if_neg c36] at H
          exact absurd H (by simp)
        ·rw [if_neg c35] at H
         have c35b0 : decide (x9_2 < a0_0) = false := decide_eq_false c35
         clear c35
         replace H := Option.bind_eq_some_iff.mp H
         obtain ⟨t253, A660, H⟩ := H
         replace H : (some t253) = some r := H
         have A66 := mkA A660
         clear A660
         obtain rfl := Option.some.inj H
         have hcz67_0 : wr.cell? ⟨gb223, 0, none⟩ = some (.int .i64 a0_0) := (blk_cell BK223.out 0).trans rfl
         have hcz67_1 : wr.cell? ⟨gb223, 1, none⟩ = some (.slice A0_1 l0_1.length c0_1) := (blk_cell BK223.out 1).trans rfl
         have hcz67_2 : wr.cell? ⟨gb223, 2, none⟩ = some (.slice A0_2 l0_2.length c0_2) := (blk_cell BK223.out 2).trans rfl
         have hfz67_0 := blk_frozen BK223.out 0
         have hfz67_1 := blk_frozen BK223.out 1
         have hfz67_2 := blk_frozen BK223.out 2
         go_wp2_with ((with_reducible refine gate_callee (f := 21) rfl ?_); refine goesL_ (some 99) rfl rfl Try.func21 (by kernel_rfl) rfl #[] rfl (by (try simp only [List.map_toArray, List.map_cons, List.map_nil]); first | done | rfl | (simp only [List.length_drop, List.length_take]; rfl)) ?_; (with_reducible refine (posserlaw08_awake.calls  t253 _ A66.out).mono ?_); rintro e w68 ⟨rfl, hb⟩; refine ⟨_, rfl, ?_⟩; have n0_ := mkA (Kd.R_below (by (with_reducible repeat (first | apply Kd.R_alloc)); exact HO_3.out) hb); have n1_ := mkA (Kd.R_below (by (with_reducible repeat (first | apply Kd.R_alloc)); exact HO_5.out) hb); have n2_ := mkA (Kd.S_below (by (with_reducible repeat (first | apply Kd.S_alloc)); exact HO_7.out) hb); have n3_ := mkA (blk_below (g := gb223) (o := .cells #[.int .i64 a0_0, .slice A0_1 l0_1.length c0_1, .slice A0_2 l0_2.length c0_2] 25 (0, 0)) (by (with_reducible repeat (first | refine blk_drewN ?_ _)); exact BK223.out) hb); have n4_ := mkA (below_step (by repeat (with_reducible first | exact HB.out | apply below_alloc | apply pw_below_drewN | apply below_drew1 | refine below_set ?_ GE223.out)) hb); clear HO_3; clear HO_5; clear HO_7; clear BK223; clear HB; have HO_3 := n0_; have HO_5 := n1_; have HO_7 := n2_; have BK223 := n3_; have HB := n4_; clear n0_ n1_ n2_ n3_ n4_; (try clear hb); (try clear hb2); (try clear hk); (try clear hi))
         go_ret
         exact ⟨by first | rfl | (simp [errW_none, errW_some] <;> rfl) | (simp [*, errW_none, errW_some] <;> rfl), by repeat (with_reducible first | exact HB.out | apply below_alloc | apply pw_below_drewN | apply below_drew1 | refine below_set ?_ GE223.out)⟩
  ·rw [if_neg c9] at H
   have c9b0 : (t251 == 0) = false := beq_eq_false_iff_ne.mpr c9
   have c9b1 : (t251 != 0) = true := bne_iff_ne.mpr c9
   by_cases c69 : t236 = t251
   ·rw [if_pos c69] at H
    have c69b0 : (t236 == t251) = true := beq_iff_eq.mpr c69
    have c69b1 : (t236 != t251) = false := bne_eq_false_iff_eq.mpr c69
    clear c69
    by_cases c70 : t247 = t251
    ·rw [if_pos c70] at H
     have c70b0 : (t247 == t251) = true := beq_iff_eq.mpr c70
     have c70b1 : (t247 != t251) = false := bne_eq_false_iff_eq.mpr c70
     clear c70
     by_cases c71 : (wrap64 ((t233.length : Int) + (t244.length : Int))) = 0
     ·rw [if_pos c71] at H
      have c71b0 : ((wrap64 ((t233.length : Int) + (t244.length : Int))) == 0) = true := beq_iff_eq.mpr c71
      have c71b1 : ((wrap64 ((t233.length : Int) + (t244.length : Int))) != 0) = false := bne_eq_false_iff_eq.mpr c71
      clear c71
      replace H := Option.bind_eq_some_iff.mp H
      obtain ⟨t252, A720, H⟩ := H
      replace H : (some t252) = some r := H
      have A72 := mkA A720
      clear A720
      obtain rfl := Option.some.inj H
      go_enter Try.func3, Try.ntmps3
      go_wp2_with (first | ((with_reducible refine gate_dst (N := 1) rfl ?_); (try (refine gate_guard (by rfl) ?_; dsimp only)); refine box_event ?hg (N := 1) ?hd (cs := #[.int .i64 a0_0, .slice A0_1 l0_1.length c0_1, .slice A0_2 l0_2.length c0_2]) (t := 25) ?hr ?_; (case hd => rfl); (case hg => rfl); (case hr => first | (go_simp; done) | (go_simp; rfl)); intro gb223 hg w73 hbox hb; have n0_ := mkA (below_step (by repeat (with_reducible first | exact HB.out | apply below_alloc | apply pw_below_drewN | apply below_drew1)) hb); have n1_ := mkA (hbox); have n2_ := mkA ((by rw [hg]; exact (below_size (by repeat (with_reducible first | exact HB.out | apply below_alloc | apply pw_below_drewN | apply below_drew1))) : w.heap.size ≤ gb223)); have n3_ := mkA ((by rw [hg]; exact (below_size (by repeat (with_reducible first | exact HB.out | apply below_alloc | apply pw_below_drewN | apply below_drew1))) : w.heap.size ≤ gb223)); clear HB; have HB := n0_; have BK223 := n1_; have GW223 := n2_; have GE223 := n3_; clear n0_ n1_ n2_ n3_; clear hb hbox hg; have hcz74_0 : w73.cell? ⟨gb223, 0, none⟩ = some (.int .i64 a0_0) := (blk_cell BK223.out 0).trans rfl; have hcz74_1 : w73.cell? ⟨gb223, 1, none⟩ = some (.slice A0_1 l0_1.length c0_1) := (blk_cell BK223.out 1).trans rfl; have hcz74_2 : w73.cell? ⟨gb223, 2, none⟩ = some (.slice A0_2 l0_2.length c0_2) := (blk_cell BK223.out 2).trans rfl; have hfz74_0 := blk_frozen BK223.out 0; have hfz74_1 := blk_frozen BK223.out 1; have hfz74_2 := blk_frozen BK223.out 2) | ((with_reducible refine gate_callee (f := 20) rfl ?_); refine goesL_ (some 11) rfl rfl Try.func20 (by kernel_rfl) rfl #[.agg #[.int .i64 a0_0, .slice A0_1 l0_1.length c0_1, .slice A0_2 l0_2.length c0_2]] rfl (by (try simp only [List.map_toArray, List.map_cons, List.map_nil]); first | done | rfl | (simp only [List.length_drop, List.length_take]; rfl)) ?_; (with_reducible refine (posserlaw08_Thin.calls a0_0 _ _ l0_1 _ _ l0_2 true _ ?side1 ?side2 ?side3 ?side4 A2.out).mono ?_); (case side1 => repeat (first | exact (Kd.C_below HR0_1.out HB.out))); (case side2 => exact HC0_1.out); (case side3 => repeat (first | exact (Kd.C_below HR0_2.out HB.out))); (case side4 => exact HC0_2.out); rintro e w75 ⟨rfl, hb⟩; refine ⟨_, rfl, ?_⟩; have n0_ := mkA (blk_below (g := gb223) (o := .cells #[.int .i64 a0_0, .slice A0_1 l0_1.length c0_1, .slice A0_2 l0_2.length c0_2] 25 (0, 0)) (by (with_reducible repeat (first | refine blk_drewN ?_ _)); exact BK223.out) hb); have n1_ := mkA (below_step (by repeat (with_reducible first | exact HB.out | apply below_alloc | apply pw_below_drewN | apply below_drew1 | refine below_set ?_ GE223.out)) hb); clear BK223; clear HB; have BK223 := n0_; have HB := n1_; clear n0_ n1_; (try clear hb); (try clear hb2); (try clear hk); (try clear hi); have hcz76_0 : w75.cell? ⟨gb223, 0, none⟩ = some (.int .i64 a0_0) := (blk_cell BK223.out 0).trans rfl; have hcz76_1 : w75.cell? ⟨gb223, 1, none⟩ = some (.slice A0_1 l0_1.length c0_1) := (blk_cell BK223.out 1).trans rfl; have hcz76_2 : w75.cell? ⟨gb223, 2, none⟩ = some (.slice A0_2 l0_2.length c0_2) := (blk_cell BK223.out 2).trans rfl; have hfz76_0 := blk_frozen BK223.out 0; have hfz76_1 := blk_frozen BK223.out 1; have hfz76_2 := blk_frozen BK223.out 2) | ((with_reducible refine gate_callee (f := 23) rfl ?_); refine goesL_ (some 16) rfl rfl Try.func23 (by kernel_rfl) rfl #[.agg #[.int .i64 a0_0, .slice A0_1 l0_1.length c0_1, .slice A0_2 l0_2.length c0_2]] rfl (by (try simp only [List.map_toArray, List.map_cons, List.map_nil]); first | done | rfl | (simp only [List.length_drop, List.length_take]; rfl)) ?_; (with_reducible refine (posserlaw08_Slate.calls k a0_0 _ _ l0_1 _ _ l0_2 t226 t227 t230 _ ?side1 ?side2 ?side3 ?side4 A4.out).mono ?_); (case side1 => repeat (first | exact (Kd.C_below HR0_1.out HB.out))); (case side2 => exact HC0_1.out); (case side3 => repeat (first | exact (Kd.C_below HR0_2.out HB.out))); (case side4 => exact HC0_2.out); rintro e w77 ⟨v228, v231, rfl, ho0, ho1, hb⟩; refine ⟨_, rfl, ?_⟩; have n0_ := mkA (Kd.R_lower ho0 (below_size (by repeat (with_reducible first | exact HB.out | apply below_alloc | apply pw_below_drewN | apply below_drew1 | refine below_set ?_ GE223.out)))); have n1_ := mkA (Kd.R_lower ho1 (below_size (by repeat (with_reducible first | exact HB.out | apply below_alloc | apply pw_below_drewN | apply below_drew1 | refine below_set ?_ GE223.out)))); have n2_ := mkA (blk_below (g := gb223) (o := .cells #[.int .i64 a0_0, .slice A0_1 l0_1.length c0_1, .slice A0_2 l0_2.length c0_2] 25 (0, 0)) (by (with_reducible repeat (first | refine blk_drewN ?_ _)); exact BK223.out) hb); have n3_ := mkA (below_step (by repeat (with_reducible first | exact HB.out | apply below_alloc | apply pw_below_drewN | apply below_drew1 | refine below_set ?_ GE223.out)) hb); clear BK223; clear HB; have HO229 := n0_; have HO232 := n1_; have BK223 := n2_; have HB := n3_; clear n0_ n1_ n2_ n3_; (try clear hb); (try clear hb2); (try clear hk); (try clear hi); (try clear ho0); (try clear ho1); obtain ⟨Ao78, co78, eo78⟩ := Kd.R_slice HO229.out; subst eo78; obtain ⟨Ao79, co79, eo79⟩ := Kd.R_slice HO232.out; subst eo79) | ((with_reducible refine gate_callee (f := 22) rfl ?_); refine goesL_ (some 17) rfl rfl Try.func22 (by kernel_rfl) rfl #[.agg #[.int .i64 t226, .slice Ao78 t227.length co78, .slice Ao79 t230.length co79]] rfl (by (try simp only [List.map_toArray, List.map_cons, List.map_nil]); first | done | rfl | (simp only [List.length_drop, List.length_take]; rfl)) ?_; (with_reducible refine (soap_Bounds.calls t226 _ _ t227 _ _ t230 t233 t236 _ ?side1 ?side2 ?side3 ?side4 A5.out).mono ?_); (case side1 => repeat (first | exact (Kd.R_reads' HO229.out).2.2)); (case side2 => exact (Kd.R_reads' HO229.out).2.1); (case side3 => repeat (first | exact (Kd.R_reads' HO232.out).2.2)); (case side4 => exact (Kd.R_reads' HO232.out).2.1); rintro e w80 ⟨v234, rfl, ho0, hb⟩; refine ⟨_, rfl, ?_⟩; have n0_ := mkA (Kd.R_below (by (with_reducible repeat (first | apply Kd.R_alloc)); exact HO229.out) hb); have n1_ := mkA (Kd.R_below (by (with_reducible repeat (first | apply Kd.R_alloc)); exact HO232.out) hb); have n2_ := mkA (Kd.R_lower ho0 (below_size (by repeat (with_reducible first | exact HB.out | apply below_alloc | apply pw_below_drewN | apply below_drew1 | refine below_set ?_ GE223.out)))); have n3_ := mkA (blk_below (g := gb223) (o := .cells #[.int .i64 a0_0, .slice A0_1 l0_1.length c0_1, .slice A0_2 l0_2.length c0_2] 25 (0, 0)) (by (with_reducible repeat (first | refine blk_drewN ?_ _)); exact BK223.out) hb); have n4_ := mkA (below_step (by repeat (with_reducible first | exact HB.out | apply below_alloc | apply pw_below_drewN | apply below_drew1 | refine below_set ?_ GE223.out)) hb); clear HO229; clear HO232; clear BK223; clear HB; have HO229 := n0_; have HO232 := n1_; have HO235 := n2_; have BK223 := n3_; have HB := n4_; clear n0_ n1_ n2_ n3_ n4_; (try clear hb); (try clear hb2); (try clear hk); (try clear hi); (try clear ho0); have hcz81_0 : w80.cell? ⟨gb223, 0, none⟩ = some (.int .i64 a0_0) := (blk_cell BK223.out 0).trans rfl; have hcz81_1 : w80.cell? ⟨gb223, 1, none⟩ = some (.slice A0_1 l0_1.length c0_1) := (blk_cell BK223.out 1).trans rfl; have hcz81_2 : w80.cell? ⟨gb223, 2, none⟩ = some (.slice A0_2 l0_2.length c0_2) := (blk_cell BK223.out 2).trans rfl; have hfz81_0 := blk_frozen BK223.out 0; have hfz81_1 := blk_frozen BK223.out 1; have hfz81_2 := blk_frozen BK223.out 2) | ((with_reducible refine gate_callee (f := 23) rfl ?_); refine goesL_ (some 22) rfl rfl Try.func23 (by kernel_rfl) rfl #[.agg #[.int .i64 a0_0, .slice A0_1 l0_1.length c0_1, .slice A0_2 l0_2.length c0_2]] rfl (by (try simp only [List.map_toArray, List.map_cons, List.map_nil]); first | done | rfl | (simp only [List.length_drop, List.length_take]; rfl)) ?_; (with_reducible refine (posserlaw08_Slate.calls k a0_0 _ _ l0_1 _ _ l0_2 t237 t238 t241 _ ?side1 ?side2 ?side3 ?side4 A6.out).mono ?_); (case side1 => repeat (first | exact (Kd.C_below HR0_1.out HB.out))); (case side2 => exact HC0_1.out); (case side3 => repeat (first | exact (Kd.C_below HR0_2.out HB.out))); (case side4 => exact HC0_2.out); rintro e w82 ⟨v239, v242, rfl, ho0, ho1, hb⟩; refine ⟨_, rfl, ?_⟩; have n0_ := mkA (Kd.R_elder' (by (with_reducible repeat (first | apply Kd.R_alloc)); exact HO229.out) (Kd.R_base ho0) hb); have n1_ := mkA (Kd.R_elder' (by (with_reducible repeat (first | apply Kd.R_alloc)); exact HO232.out) (Kd.R_base ho1) hb); have n2_ := mkA (Kd.R_below (by (with_reducible repeat (first | apply Kd.R_alloc)); exact HO235.out) hb); have n3_ := mkA (Kd.R_lower (Kd.R_new' ho0 (Kd.R_lt (by (with_reducible repeat (first | apply Kd.R_alloc)); exact HO229.out))) (below_size (by repeat (with_reducible first | exact HB.out | apply below_alloc | apply pw_below_drewN | apply below_drew1 | refine below_set ?_ GE223.out)))); have n4_ := mkA (Kd.R_lower (Kd.R_new' ho1 (Kd.R_lt (by (with_reducible repeat (first | apply Kd.R_alloc)); exact HO232.out))) (below_size (by repeat (with_reducible first | exact HB.out | apply below_alloc | apply pw_below_drewN | apply below_drew1 | refine below_set ?_ GE223.out)))); have n5_ := mkA (blk_below (g := gb223) (o := .cells #[.int .i64 a0_0, .slice A0_1 l0_1.length c0_1, .slice A0_2 l0_2.length c0_2] 25 (0, 0)) (by (with_reducible repeat (first | refine blk_drewN ?_ _)); exact BK223.out) hb); have n6_ := mkA (below_step (by repeat (with_reducible first | exact HB.out | apply below_alloc | apply pw_below_drewN | apply below_drew1 | refine below_set ?_ GE223.out)) hb); clear HO229; clear HO232; clear HO235; clear BK223; clear HB; have HO229 := n0_; have HO232 := n1_; have HO235 := n2_; have HO240 := n3_; have HO243 := n4_; have BK223 := n5_; have HB := n6_; clear n0_ n1_ n2_ n3_ n4_ n5_ n6_; (try clear hb); (try clear hb2); (try clear hk); (try clear hi); (try clear ho0); (try clear ho1); obtain ⟨Ao83, co83, eo83⟩ := Kd.R_slice HO240.out; subst eo83; obtain ⟨Ao84, co84, eo84⟩ := Kd.R_slice HO243.out; subst eo84) | ((with_reducible refine gate_callee (f := 24) rfl ?_); refine goesL_ (some 23) rfl rfl Try.func24 (by kernel_rfl) rfl #[.agg #[.int .i64 t237, .slice Ao83 t238.length co83, .slice Ao84 t241.length co84]] rfl (by (try simp only [List.map_toArray, List.map_cons, List.map_nil]); first | done | rfl | (simp only [List.length_drop, List.length_take]; rfl)) ?_; (with_reducible refine (soap_Owes.calls k t237 _ _ t238 _ _ t241 t244 t247 _ ?side1 ?side2 ?side3 ?side4 A7.out).mono ?_); (case side1 => repeat (first | exact (Kd.R_reads' HO240.out).2.2)); (case side2 => exact (Kd.R_reads' HO240.out).2.1); (case side3 => repeat (first | exact (Kd.R_reads' HO243.out).2.2)); (case side4 => exact (Kd.R_reads' HO243.out).2.1); rintro e w85 ⟨v245, rfl, ho0, hb⟩; refine ⟨_, rfl, ?_⟩; have n0_ := mkA (Kd.R_below (by (with_reducible repeat (first | apply Kd.R_alloc)); exact HO229.out) hb); have n1_ := mkA (Kd.R_below (by (with_reducible repeat (first | apply Kd.R_alloc)); exact HO232.out) hb); have n2_ := mkA (Kd.R_below (by (with_reducible repeat (first | apply Kd.R_alloc)); exact HO235.out) hb); have n3_ := mkA (Kd.R_below (by (with_reducible repeat (first | apply Kd.R_alloc)); exact HO240.out) hb); have n4_ := mkA (Kd.R_below (by (with_reducible repeat (first | apply Kd.R_alloc)); exact HO243.out) hb); have n5_ := mkA (Kd.R_lower ho0 (below_size (by repeat (with_reducible first | exact HB.out | apply below_alloc | apply pw_below_drewN | apply below_drew1 | refine below_set ?_ GE223.out)))); have n6_ := mkA (blk_below (g := gb223) (o := .cells #[.int .i64 a0_0, .slice A0_1 l0_1.length c0_1, .slice A0_2 l0_2.length c0_2] 25 (0, 0)) (by (with_reducible repeat (first | refine blk_drewN ?_ _)); exact BK223.out) hb); have n7_ := mkA (below_step (by repeat (with_reducible first | exact HB.out | apply below_alloc | apply pw_below_drewN | apply below_drew1 | refine below_set ?_ GE223.out)) hb); clear HO229; clear HO232; clear HO235; clear HO240; clear HO243; clear BK223; clear HB; have HO229 := n0_; have HO232 := n1_; have HO235 := n2_; have HO240 := n3_; have HO243 := n4_; have HO246 := n5_; have BK223 := n6_; have HB := n7_; clear n0_ n1_ n2_ n3_ n4_ n5_ n6_ n7_; (try clear hb); (try clear hb2); (try clear hk); (try clear hi); (try clear ho0); have hcz86_0 : w85.cell? ⟨gb223, 0, none⟩ = some (.int .i64 a0_0) := (blk_cell BK223.out 0).trans rfl; have hcz86_1 : w85.cell? ⟨gb223, 1, none⟩ = some (.slice A0_1 l0_1.length c0_1) := (blk_cell BK223.out 1).trans rfl; have hcz86_2 : w85.cell? ⟨gb223, 2, none⟩ = some (.slice A0_2 l0_2.length c0_2) := (blk_cell BK223.out 2).trans rfl; have hfz86_0 := blk_frozen BK223.out 0; have hfz86_1 := blk_frozen BK223.out 1; have hfz86_2 := blk_frozen BK223.out 2) | ((with_reducible refine gate_callee (f := 25) rfl ?_); refine goesL_ (some 28) rfl rfl Try.func25 (by kernel_rfl) rfl #[.agg #[.int .i64 a0_0, .slice A0_1 l0_1.length c0_1, .slice A0_2 l0_2.length c0_2]] rfl (by (try simp only [List.map_toArray, List.map_cons, List.map_nil]); first | done | rfl | (simp only [List.length_drop, List.length_take]; rfl)) ?_; (with_reducible refine (posserlaw08_sure.calls k a0_0 _ _ l0_1 _ _ l0_2 t248 t251 _ ?side1 ?side2 ?side3 ?side4 A8.out).mono ?_); (case side1 => repeat (first | exact (Kd.C_below HR0_1.out HB.out))); (case side2 => exact HC0_1.out); (case side3 => repeat (first | exact (Kd.C_below HR0_2.out HB.out))); (case side4 => exact HC0_2.out); rintro e w87 ⟨v249, rfl, ho0, hb⟩; refine ⟨_, rfl, ?_⟩; have n0_ := mkA (Kd.R_below (by (with_reducible repeat (first | apply Kd.R_alloc)); exact HO229.out) hb); have n1_ := mkA (Kd.R_below (by (with_reducible repeat (first | apply Kd.R_alloc)); exact HO232.out) hb); have n2_ := mkA (Kd.R_below (by (with_reducible repeat (first | apply Kd.R_alloc)); exact HO235.out) hb); have n3_ := mkA (Kd.R_below (by (with_reducible repeat (first | apply Kd.R_alloc)); exact HO240.out) hb); have n4_ := mkA (Kd.R_below (by (with_reducible repeat (first | apply Kd.R_alloc)); exact HO243.out) hb); have n5_ := mkA (Kd.R_below (by (with_reducible repeat (first | apply Kd.R_alloc)); exact HO246.out) hb); have n6_ := mkA (Kd.S_lower (Kd.S_new' ho0 (Kd.R_lt (by (with_reducible repeat (first | apply Kd.R_alloc)); exact HO246.out))) (below_size (by repeat (with_reducible first | exact HB.out | apply below_alloc | apply pw_below_drewN | apply below_drew1 | refine below_set ?_ GE223.out)))); have n7_ := mkA (blk_below (g := gb223) (o := .cells #[.int .i64 a0_0, .slice A0_1 l0_1.length c0_1, .slice A0_2 l0_2.length c0_2] 25 (0, 0)) (by (with_reducible repeat (first | refine blk_drewN ?_ _)); exact BK223.out) hb); have n8_ := mkA (below_step (by repeat (with_reducible first | exact HB.out | apply below_alloc | apply pw_below_drewN | apply below_drew1 | refine below_set ?_ GE223.out)) hb); clear HO229; clear HO232; clear HO235; clear HO240; clear HO243; clear HO246; clear BK223; clear HB; have HO229 := n0_; have HO232 := n1_; have HO235 := n2_; have HO240 := n3_; have HO243 := n4_; have HO246 := n5_; have HO250 := n6_; have BK223 := n7_; have HB := n8_; clear n0_ n1_ n2_ n3_ n4_ n5_ n6_ n7_ n8_; (try clear hb); (try clear hb2); (try clear hk); (try clear hi); (try clear ho0); obtain ⟨Ao88, co88, eo88⟩ := Kd.R_slice HO235.out; subst eo88; obtain ⟨Ao89, co89, eo89⟩ := Kd.R_slice HO246.out; subst eo89) | (go_at_call 21; (with_reducible refine (posserlaw08_awake.calls  t252 _ A72.out).mono ?_); rintro e w90 ⟨rfl, hb⟩; have n0_ := mkA (Kd.R_below (by (with_reducible repeat (first | apply Kd.R_alloc)); exact HO229.out) hb); have n1_ := mkA (Kd.R_below (by (with_reducible repeat (first | apply Kd.R_alloc)); exact HO232.out) hb); have n2_ := mkA (Kd.R_below (by (with_reducible repeat (first | apply Kd.R_alloc)); exact HO235.out) hb); have n3_ := mkA (Kd.R_below (by (with_reducible repeat (first | apply Kd.R_alloc)); exact HO240.out) hb); have n4_ := mkA (Kd.R_below (by (with_reducible repeat (first | apply Kd.R_alloc)); exact HO243.out) hb); have n5_ := mkA (Kd.R_below (by (with_reducible repeat (first | apply Kd.R_alloc)); exact HO246.out) hb); have n6_ := mkA (Kd.S_below (by (with_reducible repeat (first | apply Kd.S_alloc)); exact HO250.out) hb); have n7_ := mkA (blk_below (g := gb223) (o := .cells #[.int .i64 a0_0, .slice A0_1 l0_1.length c0_1, .slice A0_2 l0_2.length c0_2] 25 (0, 0)) (by (with_reducible repeat (first | refine blk_drewN ?_ _)); exact BK223.out) hb); have n8_ := mkA (below_step (by repeat (with_reducible first | exact HB.out | apply below_alloc | apply pw_below_drewN | apply below_drew1 | refine below_set ?_ GE223.out)) hb); clear HO229; clear HO232; clear HO235; clear HO240; clear HO243; clear HO246; clear HO250; clear BK223; clear HB; have HO229 := n0_; have HO232 := n1_; have HO235 := n2_; have HO240 := n3_; have HO243 := n4_; have HO246 := n5_; have HO250 := n6_; have BK223 := n7_; have HB := n8_; clear n0_ n1_ n2_ n3_ n4_ n5_ n6_ n7_ n8_; (try clear hb); (try clear hb2); (try clear hk); (try clear hi)))
      go_ret
      exact ⟨by first | rfl | (simp [errW_none, errW_some] <;> rfl) | (simp [*, errW_none, errW_some] <;> rfl), by repeat (with_reducible first | exact HB.out | apply below_alloc | apply pw_below_drewN | apply below_drew1 | refine below_set ?_ GE223.out)⟩
     ·rw [if_neg c71] at H
      have c71b0 : ((wrap64 ((t233.length : Int) + (t244.length : Int))) == 0) = false := beq_eq_false_iff_ne.mpr c71
      have c71b1 : ((wrap64 ((t233.length : Int) + (t244.length : Int))) != 0) = true := bne_iff_ne.mpr c71
      obtain rfl := Option.some.inj H
      go_enter Try.func3, Try.ntmps3
      go_wp2_with (first | ((with_reducible refine gate_dst (N := 1) rfl ?_); (try (refine gate_guard (by rfl) ?_; dsimp only)); refine box_event ?hg (N := 1) ?hd (cs := #[.int .i64 a0_0, .slice A0_1 l0_1.length c0_1, .slice A0_2 l0_2.length c0_2]) (t := 25) ?hr ?_; (case hd => rfl); (case hg => rfl); (case hr => first | (go_simp; done) | (go_simp; rfl)); intro gb223 hg w91 hbox hb; have n0_ := mkA (below_step (by repeat (with_reducible first | exact HB.out | apply below_alloc | apply pw_below_drewN | apply below_drew1)) hb); have n1_ := mkA (hbox); have n2_ := mkA ((by rw [hg]; exact (below_size (by repeat (with_reducible first | exact HB.out | apply below_alloc | apply pw_below_drewN | apply below_drew1))) : w.heap.size ≤ gb223)); have n3_ := mkA ((by rw [hg]; exact (below_size (by repeat (with_reducible first | exact HB.out | apply below_alloc | apply pw_below_drewN | apply below_drew1))) : w.heap.size ≤ gb223)); clear HB; have HB := n0_; have BK223 := n1_; have GW223 := n2_; have GE223 := n3_; clear n0_ n1_ n2_ n3_; clear hb hbox hg; have hcz92_0 : w91.cell? ⟨gb223, 0, none⟩ = some (.int .i64 a0_0) := (blk_cell BK223.out 0).trans rfl; have hcz92_1 : w91.cell? ⟨gb223, 1, none⟩ = some (.slice A0_1 l0_1.length c0_1) := (blk_cell BK223.out 1).trans rfl; have hcz92_2 : w91.cell? ⟨gb223, 2, none⟩ = some (.slice A0_2 l0_2.length c0_2) := (blk_cell BK223.out 2).trans rfl; have hfz92_0 := blk_frozen BK223.out 0; have hfz92_1 := blk_frozen BK223.out 1; have hfz92_2 := blk_frozen BK223.out 2) | ((with_reducible refine gate_callee (f := 20) rfl ?_); refine goesL_ (some 11) rfl rfl Try.func20 (by kernel_rfl) rfl #[.agg #[.int .i64 a0_0, .slice A0_1 l0_1.length c0_1, .slice A0_2 l0_2.length c0_2]] rfl (by (try simp only [List.map_toArray, List.map_cons, List.map_nil]); first | done | rfl | (simp only [List.length_drop, List.length_take]; rfl)) ?_; (with_reducible refine (posserlaw08_Thin.calls a0_0 _ _ l0_1 _ _ l0_2 true _ ?side1 ?side2 ?side3 ?side4 A2.out).mono ?_); (case side1 => repeat (first | exact (Kd.C_below HR0_1.out HB.out))); (case side2 => exact HC0_1.out); (case side3 => repeat (first | exact (Kd.C_below HR0_2.out HB.out))); (case side4 => exact HC0_2.out); rintro e w93 ⟨rfl, hb⟩; refine ⟨_, rfl, ?_⟩; have n0_ := mkA (blk_below (g := gb223) (o := .cells #[.int .i64 a0_0, .slice A0_1 l0_1.length c0_1, .slice A0_2 l0_2.length c0_2] 25 (0, 0)) (by (with_reducible repeat (first | refine blk_drewN ?_ _)); exact BK223.out) hb); have n1_ := mkA (below_step (by repeat (with_reducible first | exact HB.out | apply below_alloc | apply pw_below_drewN | apply below_drew1 | refine below_set ?_ GE223.out)) hb); clear BK223; clear HB; have BK223 := n0_; have HB := n1_; clear n0_ n1_; (try clear hb); (try clear hb2); (try clear hk); (try clear hi); have hcz94_0 : w93.cell? ⟨gb223, 0, none⟩ = some (.int .i64 a0_0) := (blk_cell BK223.out 0).trans rfl; have hcz94_1 : w93.cell? ⟨gb223, 1, none⟩ = some (.slice A0_1 l0_1.length c0_1) := (blk_cell BK223.out 1).trans rfl; have hcz94_2 : w93.cell? ⟨gb223, 2, none⟩ = some (.slice A0_2 l0_2.length c0_2) := (blk_cell BK223.out 2).trans rfl; have hfz94_0 := blk_frozen BK223.out 0; have hfz94_1 := blk_frozen BK223.out 1; have hfz94_2 := blk_frozen BK223.out 2) | ((with_reducible refine gate_callee (f := 23) rfl ?_); refine goesL_ (some 16) rfl rfl Try.func23 (by kernel_rfl) rfl #[.agg #[.int .i64 a0_0, .slice A0_1 l0_1.length c0_1, .slice A0_2 l0_2.length c0_2]] rfl (by (try simp only [List.map_toArray, List.map_cons, List.map_nil]); first | done | rfl | (simp only [List.length_drop, List.length_take]; rfl)) ?_; (with_reducible refine (posserlaw08_Slate.calls k a0_0 _ _ l0_1 _ _ l0_2 t226 t227 t230 _ ?side1 ?side2 ?side3 ?side4 A4.out).mono ?_); (case side1 => repeat (first | exact (Kd.C_below HR0_1.out HB.out))); (case side2 => exact HC0_1.out); (case side3 => repeat (first | exact (Kd.C_below HR0_2.out HB.out))); (case side4 => exact HC0_2.out); rintro e w95 ⟨v228, v231, rfl, ho0, ho1, hb⟩; refine ⟨_, rfl, ?_⟩; have n0_ := mkA (Kd.R_lower ho0 (below_size (by repeat (with_reducible first | exact HB.out | apply below_alloc | apply pw_below_drewN | apply below_drew1 | refine below_set ?_ GE223.out)))); have n1_ := mkA (Kd.R_lower ho1 (below_size (by repeat (with_reducible first | exact HB.out | apply below_alloc | apply pw_below_drewN | apply below_drew1 | refine below_set ?_ GE223.out)))); have n2_ := mkA (blk_below (g := gb223) (o := .cells #[.int .i64 a0_0, .slice A0_1 l0_1.length c0_1, .slice A0_2 l0_2.length c0_2] 25 (0, 0)) (by (with_reducible repeat (first | refine blk_drewN ?_ _)); exact BK223.out) hb); have n3_ := mkA (below_step (by repeat (with_reducible first | exact HB.out | apply below_alloc | apply pw_below_drewN | apply below_drew1 | refine below_set ?_ GE223.out)) hb); clear BK223; clear HB; have HO229 := n0_; have HO232 := n1_; have BK223 := n2_; have HB := n3_; clear n0_ n1_ n2_ n3_; (try clear hb); (try clear hb2); (try clear hk); (try clear hi); (try clear ho0); (try clear ho1); obtain ⟨Ao96, co96, eo96⟩ := Kd.R_slice HO229.out; subst eo96; obtain ⟨Ao97, co97, eo97⟩ := Kd.R_slice HO232.out; subst eo97) | ((with_reducible refine gate_callee (f := 22) rfl ?_); refine goesL_ (some 17) rfl rfl Try.func22 (by kernel_rfl) rfl #[.agg #[.int .i64 t226, .slice Ao96 t227.length co96, .slice Ao97 t230.length co97]] rfl (by (try simp only [List.map_toArray, List.map_cons, List.map_nil]); first | done | rfl | (simp only [List.length_drop, List.length_take]; rfl)) ?_; (with_reducible refine (soap_Bounds.calls t226 _ _ t227 _ _ t230 t233 t236 _ ?side1 ?side2 ?side3 ?side4 A5.out).mono ?_); (case side1 => repeat (first | exact (Kd.R_reads' HO229.out).2.2)); (case side2 => exact (Kd.R_reads' HO229.out).2.1); (case side3 => repeat (first | exact (Kd.R_reads' HO232.out).2.2)); (case side4 => exact (Kd.R_reads' HO232.out).2.1); rintro e w98 ⟨v234, rfl, ho0, hb⟩; refine ⟨_, rfl, ?_⟩; have n0_ := mkA (Kd.R_below (by (with_reducible repeat (first | apply Kd.R_alloc)); exact HO229.out) hb); have n1_ := mkA (Kd.R_below (by (with_reducible repeat (first | apply Kd.R_alloc)); exact HO232.out) hb); have n2_ := mkA (Kd.R_lower ho0 (below_size (by repeat (with_reducible first | exact HB.out | apply below_alloc | apply pw_below_drewN | apply below_drew1 | refine below_set ?_ GE223.out)))); have n3_ := mkA (blk_below (g := gb223) (o := .cells #[.int .i64 a0_0, .slice A0_1 l0_1.length c0_1, .slice A0_2 l0_2.length c0_2] 25 (0, 0)) (by (with_reducible repeat (first | refine blk_drewN ?_ _)); exact BK223.out) hb); have n4_ := mkA (below_step (by repeat (with_reducible first | exact HB.out | apply below_alloc | apply pw_below_drewN | apply below_drew1 | refine below_set ?_ GE223.out)) hb); clear HO229; clear HO232; clear BK223; clear HB; have HO229 := n0_; have HO232 := n1_; have HO235 := n2_; have BK223 := n3_; have HB := n4_; clear n0_ n1_ n2_ n3_ n4_; (try clear hb); (try clear hb2); (try clear hk); (try clear hi); (try clear ho0); have hcz99_0 : w98.cell? ⟨gb223, 0, none⟩ = some (.int .i64 a0_0) := (blk_cell BK223.out 0).trans rfl; have hcz99_1 : w98.cell? ⟨gb223, 1, none⟩ = some (.slice A0_1 l0_1.length c0_1) := (blk_cell BK223.out 1).trans rfl; have hcz99_2 : w98.cell? ⟨gb223, 2, none⟩ = some (.slice A0_2 l0_2.length c0_2) := (blk_cell BK223.out 2).trans rfl; have hfz99_0 := blk_frozen BK223.out 0; have hfz99_1 := blk_frozen BK223.out 1; have hfz99_2 := blk_frozen BK223.out 2) | ((with_reducible refine gate_callee (f := 23) rfl ?_); refine goesL_ (some 22) rfl rfl Try.func23 (by kernel_rfl) rfl #[.agg #[.int .i64 a0_0, .slice A0_1 l0_1.length c0_1, .slice A0_2 l0_2.length c0_2]] rfl (by (try simp only [List.map_toArray, List.map_cons, List.map_nil]); first | done | rfl | (simp only [List.length_drop, List.length_take]; rfl)) ?_; (with_reducible refine (posserlaw08_Slate.calls k a0_0 _ _ l0_1 _ _ l0_2 t237 t238 t241 _ ?side1 ?side2 ?side3 ?side4 A6.out).mono ?_); (case side1 => repeat (first | exact (Kd.C_below HR0_1.out HB.out))); (case side2 => exact HC0_1.out); (case side3 => repeat (first | exact (Kd.C_below HR0_2.out HB.out))); (case side4 => exact HC0_2.out); rintro e w100 ⟨v239, v242, rfl, ho0, ho1, hb⟩; refine ⟨_, rfl, ?_⟩; have n0_ := mkA (Kd.R_elder' (by (with_reducible repeat (first | apply Kd.R_alloc)); exact HO229.out) (Kd.R_base ho0) hb); have n1_ := mkA (Kd.R_elder' (by (with_reducible repeat (first | apply Kd.R_alloc)); exact HO232.out) (Kd.R_base ho1) hb); have n2_ := mkA (Kd.R_below (by (with_reducible repeat (first | apply Kd.R_alloc)); exact HO235.out) hb); have n3_ := mkA (Kd.R_lower (Kd.R_new' ho0 (Kd.R_lt (by (with_reducible repeat (first | apply Kd.R_alloc)); exact HO229.out))) (below_size (by repeat (with_reducible first | exact HB.out | apply below_alloc | apply pw_below_drewN | apply below_drew1 | refine below_set ?_ GE223.out)))); have n4_ := mkA (Kd.R_lower (Kd.R_new' ho1 (Kd.R_lt (by (with_reducible repeat (first | apply Kd.R_alloc)); exact HO232.out))) (below_size (by repeat (with_reducible first | exact HB.out | apply below_alloc | apply pw_below_drewN | apply below_drew1 | refine below_set ?_ GE223.out)))); have n5_ := mkA (blk_below (g := gb223) (o := .cells #[.int .i64 a0_0, .slice A0_1 l0_1.length c0_1, .slice A0_2 l0_2.length c0_2] 25 (0, 0)) (by (with_reducible repeat (first | refine blk_drewN ?_ _)); exact BK223.out) hb); have n6_ := mkA (below_step (by repeat (with_reducible first | exact HB.out | apply below_alloc | apply pw_below_drewN | apply below_drew1 | refine below_set ?_ GE223.out)) hb); clear HO229; clear HO232; clear HO235; clear BK223; clear HB; have HO229 := n0_; have HO232 := n1_; have HO235 := n2_; have HO240 := n3_; have HO243 := n4_; have BK223 := n5_; have HB := n6_; clear n0_ n1_ n2_ n3_ n4_ n5_ n6_; (try clear hb); (try clear hb2); (try clear hk); (try clear hi); (try clear ho0); (try clear ho1); obtain ⟨Ao101, co101, eo101⟩ := Kd.R_slice HO240.out; subst eo101; obtain ⟨Ao102, co102, eo102⟩ := Kd.R_slice HO243.out; subst eo102) | ((with_reducible refine gate_callee (f := 24) rfl ?_); refine goesL_ (some 23) rfl rfl Try.func24 (by kernel_rfl) rfl #[.agg #[.int .i64 t237, .slice Ao101 t238.length co101, .slice Ao102 t241.length co102]] rfl (by (try simp only [List.map_toArray, List.map_cons, List.map_nil]); first | done | rfl | (simp only [List.length_drop, List.length_take]; rfl)) ?_; (with_reducible refine (soap_Owes.calls k t237 _ _ t238 _ _ t241 t244 t247 _ ?side1 ?side2 ?side3 ?side4 A7.out).mono ?_); (case side1 => repeat (first | exact (Kd.R_reads' HO240.out).2.2)); (case side2 => exact (Kd.R_reads' HO240.out).2.1); (case side3 => repeat (first | exact (Kd.R_reads' HO243.out).2.2)); (case side4 => exact (Kd.R_reads' HO243.out).2.1); rintro e w103 ⟨v245, rfl, ho0, hb⟩; refine ⟨_, rfl, ?_⟩; have n0_ := mkA (Kd.R_below (by (with_reducible repeat (first | apply Kd.R_alloc)); exact HO229.out) hb); have n1_ := mkA (Kd.R_below (by (with_reducible repeat (first | apply Kd.R_alloc)); exact HO232.out) hb); have n2_ := mkA (Kd.R_below (by (with_reducible repeat (first | apply Kd.R_alloc)); exact HO235.out) hb); have n3_ := mkA (Kd.R_below (by (with_reducible repeat (first | apply Kd.R_alloc)); exact HO240.out) hb); have n4_ := mkA (Kd.R_below (by (with_reducible repeat (first | apply Kd.R_alloc)); exact HO243.out) hb); have n5_ := mkA (Kd.R_lower ho0 (below_size (by repeat (with_reducible first | exact HB.out | apply below_alloc | apply pw_below_drewN | apply below_drew1 | refine below_set ?_ GE223.out)))); have n6_ := mkA (blk_below (g := gb223) (o := .cells #[.int .i64 a0_0, .slice A0_1 l0_1.length c0_1, .slice A0_2 l0_2.length c0_2] 25 (0, 0)) (by (with_reducible repeat (first | refine blk_drewN ?_ _)); exact BK223.out) hb); have n7_ := mkA (below_step (by repeat (with_reducible first | exact HB.out | apply below_alloc | apply pw_below_drewN | apply below_drew1 | refine below_set ?_ GE223.out)) hb); clear HO229; clear HO232; clear HO235; clear HO240; clear HO243; clear BK223; clear HB; have HO229 := n0_; have HO232 := n1_; have HO235 := n2_; have HO240 := n3_; have HO243 := n4_; have HO246 := n5_; have BK223 := n6_; have HB := n7_; clear n0_ n1_ n2_ n3_ n4_ n5_ n6_ n7_; (try clear hb); (try clear hb2); (try clear hk); (try clear hi); (try clear ho0); have hcz104_0 : w103.cell? ⟨gb223, 0, none⟩ = some (.int .i64 a0_0) := (blk_cell BK223.out 0).trans rfl; have hcz104_1 : w103.cell? ⟨gb223, 1, none⟩ = some (.slice A0_1 l0_1.length c0_1) := (blk_cell BK223.out 1).trans rfl; have hcz104_2 : w103.cell? ⟨gb223, 2, none⟩ = some (.slice A0_2 l0_2.length c0_2) := (blk_cell BK223.out 2).trans rfl; have hfz104_0 := blk_frozen BK223.out 0; have hfz104_1 := blk_frozen BK223.out 1; have hfz104_2 := blk_frozen BK223.out 2) | ((with_reducible refine gate_callee (f := 25) rfl ?_); refine goesL_ (some 28) rfl rfl Try.func25 (by kernel_rfl) rfl #[.agg #[.int .i64 a0_0, .slice A0_1 l0_1.length c0_1, .slice A0_2 l0_2.length c0_2]] rfl (by (try simp only [List.map_toArray, List.map_cons, List.map_nil]); first | done | rfl | (simp only [List.length_drop, List.length_take]; rfl)) ?_; (with_reducible refine (posserlaw08_sure.calls k a0_0 _ _ l0_1 _ _ l0_2 t248 t251 _ ?side1 ?side2 ?side3 ?side4 A8.out).mono ?_); (case side1 => repeat (first | exact (Kd.C_below HR0_1.out HB.out))); (case side2 => exact HC0_1.out); (case side3 => repeat (first | exact (Kd.C_below HR0_2.out HB.out))); (case side4 => exact HC0_2.out); rintro e w105 ⟨v249, rfl, ho0, hb⟩; refine ⟨_, rfl, ?_⟩; have n0_ := mkA (Kd.R_below (by (with_reducible repeat (first | apply Kd.R_alloc)); exact HO229.out) hb); have n1_ := mkA (Kd.R_below (by (with_reducible repeat (first | apply Kd.R_alloc)); exact HO232.out) hb); have n2_ := mkA (Kd.R_below (by (with_reducible repeat (first | apply Kd.R_alloc)); exact HO235.out) hb); have n3_ := mkA (Kd.R_below (by (with_reducible repeat (first | apply Kd.R_alloc)); exact HO240.out) hb); have n4_ := mkA (Kd.R_below (by (with_reducible repeat (first | apply Kd.R_alloc)); exact HO243.out) hb); have n5_ := mkA (Kd.R_below (by (with_reducible repeat (first | apply Kd.R_alloc)); exact HO246.out) hb); have n6_ := mkA (Kd.S_lower (Kd.S_new' ho0 (Kd.R_lt (by (with_reducible repeat (first | apply Kd.R_alloc)); exact HO246.out))) (below_size (by repeat (with_reducible first | exact HB.out | apply below_alloc | apply pw_below_drewN | apply below_drew1 | refine below_set ?_ GE223.out)))); have n7_ := mkA (blk_below (g := gb223) (o := .cells #[.int .i64 a0_0, .slice A0_1 l0_1.length c0_1, .slice A0_2 l0_2.length c0_2] 25 (0, 0)) (by (with_reducible repeat (first | refine blk_drewN ?_ _)); exact BK223.out) hb); have n8_ := mkA (below_step (by repeat (with_reducible first | exact HB.out | apply below_alloc | apply pw_below_drewN | apply below_drew1 | refine below_set ?_ GE223.out)) hb); clear HO229; clear HO232; clear HO235; clear HO240; clear HO243; clear HO246; clear BK223; clear HB; have HO229 := n0_; have HO232 := n1_; have HO235 := n2_; have HO240 := n3_; have HO243 := n4_; have HO246 := n5_; have HO250 := n6_; have BK223 := n7_; have HB := n8_; clear n0_ n1_ n2_ n3_ n4_ n5_ n6_ n7_ n8_; (try clear hb); (try clear hb2); (try clear hk); (try clear hi); (try clear ho0); obtain ⟨Ao106, co106, eo106⟩ := Kd.R_slice HO235.out; subst eo106; obtain ⟨Ao107, co107, eo107⟩ := Kd.R_slice HO246.out; subst eo107))
      go_ret
      exact ⟨by first | rfl | (simp [errW_none, errW_some] <;> rfl) | (simp [*, errW_none, errW_some] <;> rfl), by repeat (with_reducible first | exact HB.out | apply below_alloc | apply pw_below_drewN | apply below_drew1 | refine below_set ?_ GE223.out)⟩
    ·rw [if_neg c70] at H
     have c70b0 : (t247 == t251) = false := beq_eq_false_iff_ne.mpr c70
     have c70b1 : (t247 != t251) = true := bne_iff_ne.mpr c70
     obtain rfl := Option.some.inj H
     go_enter Try.func3, Try.ntmps3
     go_wp2_with (first | ((with_reducible refine gate_dst (N := 1) rfl ?_); (try (refine gate_guard (by rfl) ?_; dsimp only)); refine box_event ?hg (N := 1) ?hd (cs := #[.int .i64 a0_0, .slice A0_1 l0_1.length c0_1, .slice A0_2 l0_2.length c0_2]) (t := 25) ?hr ?_; (case hd => rfl); (case hg => rfl); (case hr => first | (go_simp; done) | (go_simp; rfl)); intro gb223 hg w108 hbox hb; have n0_ := mkA (below_step (by repeat (with_reducible first | exact HB.out | apply below_alloc | apply pw_below_drewN | apply below_drew1)) hb); have n1_ := mkA (hbox); have n2_ := mkA ((by rw [hg]; exact (below_size (by repeat (with_reducible first | exact HB.out | apply below_alloc | apply pw_below_drewN | apply below_drew1))) : w.heap.size ≤ gb223)); have n3_ := mkA ((by rw [hg]; exact (below_size (by repeat (with_reducible first | exact HB.out | apply below_alloc | apply pw_below_drewN | apply below_drew1))) : w.heap.size ≤ gb223)); clear HB; have HB := n0_; have BK223 := n1_; have GW223 := n2_; have GE223 := n3_; clear n0_ n1_ n2_ n3_; clear hb hbox hg; have hcz109_0 : w108.cell? ⟨gb223, 0, none⟩ = some (.int .i64 a0_0) := (blk_cell BK223.out 0).trans rfl; have hcz109_1 : w108.cell? ⟨gb223, 1, none⟩ = some (.slice A0_1 l0_1.length c0_1) := (blk_cell BK223.out 1).trans rfl; have hcz109_2 : w108.cell? ⟨gb223, 2, none⟩ = some (.slice A0_2 l0_2.length c0_2) := (blk_cell BK223.out 2).trans rfl; have hfz109_0 := blk_frozen BK223.out 0; have hfz109_1 := blk_frozen BK223.out 1; have hfz109_2 := blk_frozen BK223.out 2) | ((with_reducible refine gate_callee (f := 20) rfl ?_); refine goesL_ (some 11) rfl rfl Try.func20 (by kernel_rfl) rfl #[.agg #[.int .i64 a0_0, .slice A0_1 l0_1.length c0_1, .slice A0_2 l0_2.length c0_2]] rfl (by (try simp only [List.map_toArray, List.map_cons, List.map_nil]); first | done | rfl | (simp only [List.length_drop, List.length_take]; rfl)) ?_; (with_reducible refine (posserlaw08_Thin.calls a0_0 _ _ l0_1 _ _ l0_2 true _ ?side1 ?side2 ?side3 ?side4 A2.out).mono ?_); (case side1 => repeat (first | exact (Kd.C_below HR0_1.out HB.out))); (case side2 => exact HC0_1.out); (case side3 => repeat (first | exact (Kd.C_below HR0_2.out HB.out))); (case side4 => exact HC0_2.out); rintro e w110 ⟨rfl, hb⟩; refine ⟨_, rfl, ?_⟩; have n0_ := mkA (blk_below (g := gb223) (o := .cells #[.int .i64 a0_0, .slice A0_1 l0_1.length c0_1, .slice A0_2 l0_2.length c0_2] 25 (0, 0)) (by (with_reducible repeat (first | refine blk_drewN ?_ _)); exact BK223.out) hb); have n1_ := mkA (below_step (by repeat (with_reducible first | exact HB.out | apply below_alloc | apply pw_below_drewN | apply below_drew1 | refine below_set ?_ GE223.out)) hb); clear BK223; clear HB; have BK223 := n0_; have HB := n1_; clear n0_ n1_; (try clear hb); (try clear hb2); (try clear hk); (try clear hi); have hcz111_0 : w110.cell? ⟨gb223, 0, none⟩ = some (.int .i64 a0_0) := (blk_cell BK223.out 0).trans rfl; have hcz111_1 : w110.cell? ⟨gb223, 1, none⟩ = some (.slice A0_1 l0_1.length c0_1) := (blk_cell BK223.out 1).trans rfl; have hcz111_2 : w110.cell? ⟨gb223, 2, none⟩ = some (.slice A0_2 l0_2.length c0_2) := (blk_cell BK223.out 2).trans rfl; have hfz111_0 := blk_frozen BK223.out 0; have hfz111_1 := blk_frozen BK223.out 1; have hfz111_2 := blk_frozen BK223.out 2) | ((with_reducible refine gate_callee (f := 23) rfl ?_); refine goesL_ (some 16) rfl rfl Try.func23 (by kernel_rfl) rfl #[.agg #[.int .i64 a0_0, .slice A0_1 l0_1.length c0_1, .slice A0_2 l0_2.length c0_2]] rfl (by (try simp only [List.map_toArray, List.map_cons, List.map_nil]); first | done | rfl | (simp only [List.length_drop, List.length_take]; rfl)) ?_; (with_reducible refine (posserlaw08_Slate.calls k a0_0 _ _ l0_1 _ _ l0_2 t226 t227 t230 _ ?side1 ?side2 ?side3 ?side4 A4.out).mono ?_); (case side1 => repeat (first | exact (Kd.C_below HR0_1.out HB.out))); (case side2 => exact HC0_1.out); (case side3 => repeat (first | exact (Kd.C_below HR0_2.out HB.out))); (case side4 => exact HC0_2.out); rintro e w112 ⟨v228, v231, rfl, ho0, ho1, hb⟩; refine ⟨_, rfl, ?_⟩; have n0_ := mkA (Kd.R_lower ho0 (below_size (by repeat (with_reducible first | exact HB.out | apply below_alloc | apply pw_below_drewN | apply below_drew1 | refine below_set ?_ GE223.out)))); have n1_ := mkA (Kd.R_lower ho1 (below_size (by repeat (with_reducible first | exact HB.out | apply below_alloc | apply pw_below_drewN | apply below_drew1 | refine below_set ?_ GE223.out)))); have n2_ := mkA (blk_below (g := gb223) (o := .cells #[.int .i64 a0_0, .slice A0_1 l0_1.length c0_1, .slice A0_2 l0_2.length c0_2] 25 (0, 0)) (by (with_reducible repeat (first | refine blk_drewN ?_ _)); exact BK223.out) hb); have n3_ := mkA (below_step (by repeat (with_reducible first | exact HB.out | apply below_alloc | apply pw_below_drewN | apply below_drew1 | refine below_set ?_ GE223.out)) hb); clear BK223; clear HB; have HO229 := n0_; have HO232 := n1_; have BK223 := n2_; have HB := n3_; clear n0_ n1_ n2_ n3_; (try clear hb); (try clear hb2); (try clear hk); (try clear hi); (try clear ho0); (try clear ho1); obtain ⟨Ao113, co113, eo113⟩ := Kd.R_slice HO229.out; subst eo113; obtain ⟨Ao114, co114, eo114⟩ := Kd.R_slice HO232.out; subst eo114) | ((with_reducible refine gate_callee (f := 22) rfl ?_); refine goesL_ (some 17) rfl rfl Try.func22 (by kernel_rfl) rfl #[.agg #[.int .i64 t226, .slice Ao113 t227.length co113, .slice Ao114 t230.length co114]] rfl (by (try simp only [List.map_toArray, List.map_cons, List.map_nil]); first | done | rfl | (simp only [List.length_drop, List.length_take]; rfl)) ?_; (with_reducible refine (soap_Bounds.calls t226 _ _ t227 _ _ t230 t233 t236 _ ?side1 ?side2 ?side3 ?side4 A5.out).mono ?_); (case side1 => repeat (first | exact (Kd.R_reads' HO229.out).2.2)); (case side2 => exact (Kd.R_reads' HO229.out).2.1); (case side3 => repeat (first | exact (Kd.R_reads' HO232.out).2.2)); (case side4 => exact (Kd.R_reads' HO232.out).2.1); rintro e w115 ⟨v234, rfl, ho0, hb⟩; refine ⟨_, rfl, ?_⟩; have n0_ := mkA (Kd.R_below (by (with_reducible repeat (first | apply Kd.R_alloc)); exact HO229.out) hb); have n1_ := mkA (Kd.R_below (by (with_reducible repeat (first | apply Kd.R_alloc)); exact HO232.out) hb); have n2_ := mkA (Kd.R_lower ho0 (below_size (by repeat (with_reducible first | exact HB.out | apply below_alloc | apply pw_below_drewN | apply below_drew1 | refine below_set ?_ GE223.out)))); have n3_ := mkA (blk_below (g := gb223) (o := .cells #[.int .i64 a0_0, .slice A0_1 l0_1.length c0_1, .slice A0_2 l0_2.length c0_2] 25 (0, 0)) (by (with_reducible repeat (first | refine blk_drewN ?_ _)); exact BK223.out) hb); have n4_ := mkA (below_step (by repeat (with_reducible first | exact HB.out | apply below_alloc | apply pw_below_drewN | apply below_drew1 | refine below_set ?_ GE223.out)) hb); clear HO229; clear HO232; clear BK223; clear HB; have HO229 := n0_; have HO232 := n1_; have HO235 := n2_; have BK223 := n3_; have HB := n4_; clear n0_ n1_ n2_ n3_ n4_; (try clear hb); (try clear hb2); (try clear hk); (try clear hi); (try clear ho0); have hcz116_0 : w115.cell? ⟨gb223, 0, none⟩ = some (.int .i64 a0_0) := (blk_cell BK223.out 0).trans rfl; have hcz116_1 : w115.cell? ⟨gb223, 1, none⟩ = some (.slice A0_1 l0_1.length c0_1) := (blk_cell BK223.out 1).trans rfl; have hcz116_2 : w115.cell? ⟨gb223, 2, none⟩ = some (.slice A0_2 l0_2.length c0_2) := (blk_cell BK223.out 2).trans rfl; have hfz116_0 := blk_frozen BK223.out 0; have hfz116_1 := blk_frozen BK223.out 1; have hfz116_2 := blk_frozen BK223.out 2) | ((with_reducible refine gate_callee (f := 23) rfl ?_); refine goesL_ (some 22) rfl rfl Try.func23 (by kernel_rfl) rfl #[.agg #[.int .i64 a0_0, .slice A0_1 l0_1.length c0_1, .slice A0_2 l0_2.length c0_2]] rfl (by (try simp only [List.map_toArray, List.map_cons, List.map_nil]); first | done | rfl | (simp only [List.length_drop, List.length_take]; rfl)) ?_; (with_reducible refine (posserlaw08_Slate.calls k a0_0 _ _ l0_1 _ _ l0_2 t237 t238 t241 _ ?side1 ?side2 ?side3 ?side4 A6.out).mono ?_); (case side1 => repeat (first | exact (Kd.C_below HR0_1.out HB.out))); (case side2 => exact HC0_1.out); (case side3 => repeat (first | exact (Kd.C_below HR0_2.out HB.out))); (case side4 => exact HC0_2.out); rintro e w117 ⟨v239, v242, rfl, ho0, ho1, hb⟩; refine ⟨_, rfl, ?_⟩; have n0_ := mkA (Kd.R_elder' (by (with_reducible repeat (first | apply Kd.R_alloc)); exact HO229.out) (Kd.R_base ho0) hb); have n1_ := mkA (Kd.R_elder' (by (with_reducible repeat (first | apply Kd.R_alloc)); exact HO232.out) (Kd.R_base ho1) hb); have n2_ := mkA (Kd.R_below (by (with_reducible repeat (first | apply Kd.R_alloc)); exact HO235.out) hb); have n3_ := mkA (Kd.R_lower (Kd.R_new' ho0 (Kd.R_lt (by (with_reducible repeat (first | apply Kd.R_alloc)); exact HO229.out))) (below_size (by repeat (with_reducible first | exact HB.out | apply below_alloc | apply pw_below_drewN | apply below_drew1 | refine below_set ?_ GE223.out)))); have n4_ := mkA (Kd.R_lower (Kd.R_new' ho1 (Kd.R_lt (by (with_reducible repeat (first | apply Kd.R_alloc)); exact HO232.out))) (below_size (by repeat (with_reducible first | exact HB.out | apply below_alloc | apply pw_below_drewN | apply below_drew1 | refine below_set ?_ GE223.out)))); have n5_ := mkA (blk_below (g := gb223) (o := .cells #[.int .i64 a0_0, .slice A0_1 l0_1.length c0_1, .slice A0_2 l0_2.length c0_2] 25 (0, 0)) (by (with_reducible repeat (first | refine blk_drewN ?_ _)); exact BK223.out) hb); have n6_ := mkA (below_step (by repeat (with_reducible first | exact HB.out | apply below_alloc | apply pw_below_drewN | apply below_drew1 | refine below_set ?_ GE223.out)) hb); clear HO229; clear HO232; clear HO235; clear BK223; clear HB; have HO229 := n0_; have HO232 := n1_; have HO235 := n2_; have HO240 := n3_; have HO243 := n4_; have BK223 := n5_; have HB := n6_; clear n0_ n1_ n2_ n3_ n4_ n5_ n6_; (try clear hb); (try clear hb2); (try clear hk); (try clear hi); (try clear ho0); (try clear ho1); obtain ⟨Ao118, co118, eo118⟩ := Kd.R_slice HO240.out; subst eo118; obtain ⟨Ao119, co119, eo119⟩ := Kd.R_slice HO243.out; subst eo119) | ((with_reducible refine gate_callee (f := 24) rfl ?_); refine goesL_ (some 23) rfl rfl Try.func24 (by kernel_rfl) rfl #[.agg #[.int .i64 t237, .slice Ao118 t238.length co118, .slice Ao119 t241.length co119]] rfl (by (try simp only [List.map_toArray, List.map_cons, List.map_nil]); first | done | rfl | (simp only [List.length_drop, List.length_take]; rfl)) ?_; (with_reducible refine (soap_Owes.calls k t237 _ _ t238 _ _ t241 t244 t247 _ ?side1 ?side2 ?side3 ?side4 A7.out).mono ?_); (case side1 => repeat (first | exact (Kd.R_reads' HO240.out).2.2)); (case side2 => exact (Kd.R_reads' HO240.out).2.1); (case side3 => repeat (first | exact (Kd.R_reads' HO243.out).2.2)); (case side4 => exact (Kd.R_reads' HO243.out).2.1); rintro e w120 ⟨v245, rfl, ho0, hb⟩; refine ⟨_, rfl, ?_⟩; have n0_ := mkA (Kd.R_below (by (with_reducible repeat (first | apply Kd.R_alloc)); exact HO229.out) hb); have n1_ := mkA (Kd.R_below (by (with_reducible repeat (first | apply Kd.R_alloc)); exact HO232.out) hb); have n2_ := mkA (Kd.R_below (by (with_reducible repeat (first | apply Kd.R_alloc)); exact HO235.out) hb); have n3_ := mkA (Kd.R_below (by (with_reducible repeat (first | apply Kd.R_alloc)); exact HO240.out) hb); have n4_ := mkA (Kd.R_below (by (with_reducible repeat (first | apply Kd.R_alloc)); exact HO243.out) hb); have n5_ := mkA (Kd.R_lower ho0 (below_size (by repeat (with_reducible first | exact HB.out | apply below_alloc | apply pw_below_drewN | apply below_drew1 | refine below_set ?_ GE223.out)))); have n6_ := mkA (blk_below (g := gb223) (o := .cells #[.int .i64 a0_0, .slice A0_1 l0_1.length c0_1, .slice A0_2 l0_2.length c0_2] 25 (0, 0)) (by (with_reducible repeat (first | refine blk_drewN ?_ _)); exact BK223.out) hb); have n7_ := mkA (below_step (by repeat (with_reducible first | exact HB.out | apply below_alloc | apply pw_below_drewN | apply below_drew1 | refine below_set ?_ GE223.out)) hb); clear HO229; clear HO232; clear HO235; clear HO240; clear HO243; clear BK223; clear HB; have HO229 := n0_; have HO232 := n1_; have HO235 := n2_; have HO240 := n3_; have HO243 := n4_; have HO246 := n5_; have BK223 := n6_; have HB := n7_; clear n0_ n1_ n2_ n3_ n4_ n5_ n6_ n7_; (try clear hb); (try clear hb2); (try clear hk); (try clear hi); (try clear ho0); have hcz121_0 : w120.cell? ⟨gb223, 0, none⟩ = some (.int .i64 a0_0) := (blk_cell BK223.out 0).trans rfl; have hcz121_1 : w120.cell? ⟨gb223, 1, none⟩ = some (.slice A0_1 l0_1.length c0_1) := (blk_cell BK223.out 1).trans rfl; have hcz121_2 : w120.cell? ⟨gb223, 2, none⟩ = some (.slice A0_2 l0_2.length c0_2) := (blk_cell BK223.out 2).trans rfl; have hfz121_0 := blk_frozen BK223.out 0; have hfz121_1 := blk_frozen BK223.out 1; have hfz121_2 := blk_frozen BK223.out 2) | ((with_reducible refine gate_callee (f := 25) rfl ?_); refine goesL_ (some 28) rfl rfl Try.func25 (by kernel_rfl) rfl #[.agg #[.int .i64 a0_0, .slice A0_1 l0_1.length c0_1, .slice A0_2 l0_2.length c0_2]] rfl (by (try simp only [List.map_toArray, List.map_cons, List.map_nil]); first | done | rfl | (simp only [List.length_drop, List.length_take]; rfl)) ?_; (with_reducible refine (posserlaw08_sure.calls k a0_0 _ _ l0_1 _ _ l0_2 t248 t251 _ ?side1 ?side2 ?side3 ?side4 A8.out).mono ?_); (case side1 => repeat (first | exact (Kd.C_below HR0_1.out HB.out))); (case side2 => exact HC0_1.out); (case side3 => repeat (first | exact (Kd.C_below HR0_2.out HB.out))); (case side4 => exact HC0_2.out); rintro e w122 ⟨v249, rfl, ho0, hb⟩; refine ⟨_, rfl, ?_⟩; have n0_ := mkA (Kd.R_below (by (with_reducible repeat (first | apply Kd.R_alloc)); exact HO229.out) hb); have n1_ := mkA (Kd.R_below (by (with_reducible repeat (first | apply Kd.R_alloc)); exact HO232.out) hb); have n2_ := mkA (Kd.R_below (by (with_reducible repeat (first | apply Kd.R_alloc)); exact HO235.out) hb); have n3_ := mkA (Kd.R_below (by (with_reducible repeat (first | apply Kd.R_alloc)); exact HO240.out) hb); have n4_ := mkA (Kd.R_below (by (with_reducible repeat (first | apply Kd.R_alloc)); exact HO243.out) hb); have n5_ := mkA (Kd.R_below (by (with_reducible repeat (first | apply Kd.R_alloc)); exact HO246.out) hb); have n6_ := mkA (Kd.S_lower (Kd.S_new' ho0 (Kd.R_lt (by (with_reducible repeat (first | apply Kd.R_alloc)); exact HO246.out))) (below_size (by repeat (with_reducible first | exact HB.out | apply below_alloc | apply pw_below_drewN | apply below_drew1 | refine below_set ?_ GE223.out)))); have n7_ := mkA (blk_below (g := gb223) (o := .cells #[.int .i64 a0_0, .slice A0_1 l0_1.length c0_1, .slice A0_2 l0_2.length c0_2] 25 (0, 0)) (by (with_reducible repeat (first | refine blk_drewN ?_ _)); exact BK223.out) hb); have n8_ := mkA (below_step (by repeat (with_reducible first | exact HB.out | apply below_alloc | apply pw_below_drewN | apply below_drew1 | refine below_set ?_ GE223.out)) hb); clear HO229; clear HO232; clear HO235; clear HO240; clear HO243; clear HO246; clear BK223; clear HB; have HO229 := n0_; have HO232 := n1_; have HO235 := n2_; have HO240 := n3_; have HO243 := n4_; have HO246 := n5_; have HO250 := n6_; have BK223 := n7_; have HB := n8_; clear n0_ n1_ n2_ n3_ n4_ n5_ n6_ n7_ n8_; (try clear hb); (try clear hb2); (try clear hk); (try clear hi); (try clear ho0)))
     go_ret
     exact ⟨by first | rfl | (simp [errW_none, errW_some] <;> rfl) | (simp [*, errW_none, errW_some] <;> rfl), by repeat (with_reducible first | exact HB.out | apply below_alloc | apply pw_below_drewN | apply below_drew1 | refine below_set ?_ GE223.out)⟩
   ·rw [if_neg c69] at H
    have c69b0 : (t236 == t251) = false := beq_eq_false_iff_ne.mpr c69
    have c69b1 : (t236 != t251) = true := bne_iff_ne.mpr c69
    obtain rfl := Option.some.inj H
    go_enter Try.func3, Try.ntmps3
    go_wp2_with (first | ((with_reducible refine gate_dst (N := 1) rfl ?_); (try (refine gate_guard (by rfl) ?_; dsimp only)); refine box_event ?hg (N := 1) ?hd (cs := #[.int .i64 a0_0, .slice A0_1 l0_1.length c0_1, .slice A0_2 l0_2.length c0_2]) (t := 25) ?hr ?_; (case hd => rfl); (case hg => rfl); (case hr => first | (go_simp; done) | (go_simp; rfl)); intro gb223 hg w123 hbox hb; have n0_ := mkA (below_step (by repeat (with_reducible first | exact HB.out | apply below_alloc | apply pw_below_drewN | apply below_drew1)) hb); have n1_ := mkA (hbox); have n2_ := mkA ((by rw [hg]; exact (below_size (by repeat (with_reducible first | exact HB.out | apply below_alloc | apply pw_below_drewN | apply below_drew1))) : w.heap.size ≤ gb223)); have n3_ := mkA ((by rw [hg]; exact (below_size (by repeat (with_reducible first | exact HB.out | apply below_alloc | apply pw_below_drewN | apply below_drew1))) : w.heap.size ≤ gb223)); clear HB; have HB := n0_; have BK223 := n1_; have GW223 := n2_; have GE223 := n3_; clear n0_ n1_ n2_ n3_; clear hb hbox hg; have hcz124_0 : w123.cell? ⟨gb223, 0, none⟩ = some (.int .i64 a0_0) := (blk_cell BK223.out 0).trans rfl; have hcz124_1 : w123.cell? ⟨gb223, 1, none⟩ = some (.slice A0_1 l0_1.length c0_1) := (blk_cell BK223.out 1).trans rfl; have hcz124_2 : w123.cell? ⟨gb223, 2, none⟩ = some (.slice A0_2 l0_2.length c0_2) := (blk_cell BK223.out 2).trans rfl; have hfz124_0 := blk_frozen BK223.out 0; have hfz124_1 := blk_frozen BK223.out 1; have hfz124_2 := blk_frozen BK223.out 2) | ((with_reducible refine gate_callee (f := 20) rfl ?_); refine goesL_ (some 11) rfl rfl Try.func20 (by kernel_rfl) rfl #[.agg #[.int .i64 a0_0, .slice A0_1 l0_1.length c0_1, .slice A0_2 l0_2.length c0_2]] rfl (by (try simp only [List.map_toArray, List.map_cons, List.map_nil]); first | done | rfl | (simp only [List.length_drop, List.length_take]; rfl)) ?_; (with_reducible refine (posserlaw08_Thin.calls a0_0 _ _ l0_1 _ _ l0_2 true _ ?side1 ?side2 ?side3 ?side4 A2.out).mono ?_); (case side1 => repeat (first | exact (Kd.C_below HR0_1.out HB.out))); (case side2 => exact HC0_1.out); (case side3 => repeat (first | exact (Kd.C_below HR0_2.out HB.out))); (case side4 => exact HC0_2.out); rintro e w125 ⟨rfl, hb⟩; refine ⟨_, rfl, ?_⟩; have n0_ := mkA (blk_below (g := gb223) (o := .cells #[.int .i64 a0_0, .slice A0_1 l0_1.length c0_1, .slice A0_2 l0_2.length c0_2] 25 (0, 0)) (by (with_reducible repeat (first | refine blk_drewN ?_ _)); exact BK223.out) hb); have n1_ := mkA (below_step (by repeat (with_reducible first | exact HB.out | apply below_alloc | apply pw_below_drewN | apply below_drew1 | refine below_set ?_ GE223.out)) hb); clear BK223; clear HB; have BK223 := n0_; have HB := n1_; clear n0_ n1_; (try clear hb); (try clear hb2); (try clear hk); (try clear hi); have hcz126_0 : w125.cell? ⟨gb223, 0, none⟩ = some (.int .i64 a0_0) := (blk_cell BK223.out 0).trans rfl; have hcz126_1 : w125.cell? ⟨gb223, 1, none⟩ = some (.slice A0_1 l0_1.length c0_1) := (blk_cell BK223.out 1).trans rfl; have hcz126_2 : w125.cell? ⟨gb223, 2, none⟩ = some (.slice A0_2 l0_2.length c0_2) := (blk_cell BK223.out 2).trans rfl; have hfz126_0 := blk_frozen BK223.out 0; have hfz126_1 := blk_frozen BK223.out 1; have hfz126_2 := blk_frozen BK223.out 2) | ((with_reducible refine gate_callee (f := 23) rfl ?_); refine goesL_ (some 16) rfl rfl Try.func23 (by kernel_rfl) rfl #[.agg #[.int .i64 a0_0, .slice A0_1 l0_1.length c0_1, .slice A0_2 l0_2.length c0_2]] rfl (by (try simp only [List.map_toArray, List.map_cons, List.map_nil]); first | done | rfl | (simp only [List.length_drop, List.length_take]; rfl)) ?_; (with_reducible refine (posserlaw08_Slate.calls k a0_0 _ _ l0_1 _ _ l0_2 t226 t227 t230 _ ?side1 ?side2 ?side3 ?side4 A4.out).mono ?_); (case side1 => repeat (first | exact (Kd.C_below HR0_1.out HB.out))); (case side2 => exact HC0_1.out); (case side3 => repeat (first | exact (Kd.C_below HR0_2.out HB.out))); (case side4 => exact HC0_2.out); rintro e w127 ⟨v228, v231, rfl, ho0, ho1, hb⟩; refine ⟨_, rfl, ?_⟩; have n0_ := mkA (Kd.R_lower ho0 (below_size (by repeat (with_reducible first | exact HB.out | apply below_alloc | apply pw_below_drewN | apply below_drew1 | refine below_set ?_ GE223.out)))); have n1_ := mkA (Kd.R_lower ho1 (below_size (by repeat (with_reducible first | exact HB.out | apply below_alloc | apply pw_below_drewN | apply below_drew1 | refine below_set ?_ GE223.out)))); have n2_ := mkA (blk_below (g := gb223) (o := .cells #[.int .i64 a0_0, .slice A0_1 l0_1.length c0_1, .slice A0_2 l0_2.length c0_2] 25 (0, 0)) (by (with_reducible repeat (first | refine blk_drewN ?_ _)); exact BK223.out) hb); have n3_ := mkA (below_step (by repeat (with_reducible first | exact HB.out | apply below_alloc | apply pw_below_drewN | apply below_drew1 | refine below_set ?_ GE223.out)) hb); clear BK223; clear HB; have HO229 := n0_; have HO232 := n1_; have BK223 := n2_; have HB := n3_; clear n0_ n1_ n2_ n3_; (try clear hb); (try clear hb2); (try clear hk); (try clear hi); (try clear ho0); (try clear ho1); obtain ⟨Ao128, co128, eo128⟩ := Kd.R_slice HO229.out; subst eo128; obtain ⟨Ao129, co129, eo129⟩ := Kd.R_slice HO232.out; subst eo129) | ((with_reducible refine gate_callee (f := 22) rfl ?_); refine goesL_ (some 17) rfl rfl Try.func22 (by kernel_rfl) rfl #[.agg #[.int .i64 t226, .slice Ao128 t227.length co128, .slice Ao129 t230.length co129]] rfl (by (try simp only [List.map_toArray, List.map_cons, List.map_nil]); first | done | rfl | (simp only [List.length_drop, List.length_take]; rfl)) ?_; (with_reducible refine (soap_Bounds.calls t226 _ _ t227 _ _ t230 t233 t236 _ ?side1 ?side2 ?side3 ?side4 A5.out).mono ?_); (case side1 => repeat (first | exact (Kd.R_reads' HO229.out).2.2)); (case side2 => exact (Kd.R_reads' HO229.out).2.1); (case side3 => repeat (first | exact (Kd.R_reads' HO232.out).2.2)); (case side4 => exact (Kd.R_reads' HO232.out).2.1); rintro e w130 ⟨v234, rfl, ho0, hb⟩; refine ⟨_, rfl, ?_⟩; have n0_ := mkA (Kd.R_below (by (with_reducible repeat (first | apply Kd.R_alloc)); exact HO229.out) hb); have n1_ := mkA (Kd.R_below (by (with_reducible repeat (first | apply Kd.R_alloc)); exact HO232.out) hb); have n2_ := mkA (Kd.R_lower ho0 (below_size (by repeat (with_reducible first | exact HB.out | apply below_alloc | apply pw_below_drewN | apply below_drew1 | refine below_set ?_ GE223.out)))); have n3_ := mkA (blk_below (g := gb223) (o := .cells #[.int .i64 a0_0, .slice A0_1 l0_1.length c0_1, .slice A0_2 l0_2.length c0_2] 25 (0, 0)) (by (with_reducible repeat (first | refine blk_drewN ?_ _)); exact BK223.out) hb); have n4_ := mkA (below_step (by repeat (with_reducible first | exact HB.out | apply below_alloc | apply pw_below_drewN | apply below_drew1 | refine below_set ?_ GE223.out)) hb); clear HO229; clear HO232; clear BK223; clear HB; have HO229 := n0_; have HO232 := n1_; have HO235 := n2_; have BK223 := n3_; have HB := n4_; clear n0_ n1_ n2_ n3_ n4_; (try clear hb); (try clear hb2); (try clear hk); (try clear hi); (try clear ho0); have hcz131_0 : w130.cell? ⟨gb223, 0, none⟩ = some (.int .i64 a0_0) := (blk_cell BK223.out 0).trans rfl; have hcz131_1 : w130.cell? ⟨gb223, 1, none⟩ = some (.slice A0_1 l0_1.length c0_1) := (blk_cell BK223.out 1).trans rfl; have hcz131_2 : w130.cell? ⟨gb223, 2, none⟩ = some (.slice A0_2 l0_2.length c0_2) := (blk_cell BK223.out 2).trans rfl; have hfz131_0 := blk_frozen BK223.out 0; have hfz131_1 := blk_frozen BK223.out 1; have hfz131_2 := blk_frozen BK223.out 2) | ((with_reducible refine gate_callee (f := 23) rfl ?_); refine goesL_ (some 22) rfl rfl Try.func23 (by kernel_rfl) rfl #[.agg #[.int .i64 a0_0, .slice A0_1 l0_1.length c0_1, .slice A0_2 l0_2.length c0_2]] rfl (by (try simp only [List.map_toArray, List.map_cons, List.map_nil]); first | done | rfl | (simp only [List.length_drop, List.length_take]; rfl)) ?_; (with_reducible refine (posserlaw08_Slate.calls k a0_0 _ _ l0_1 _ _ l0_2 t237 t238 t241 _ ?side1 ?side2 ?side3 ?side4 A6.out).mono ?_); (case side1 => repeat (first | exact (Kd.C_below HR0_1.out HB.out))); (case side2 => exact HC0_1.out); (case side3 => repeat (first | exact (Kd.C_below HR0_2.out HB.out))); (case side4 => exact HC0_2.out); rintro e w132 ⟨v239, v242, rfl, ho0, ho1, hb⟩; refine ⟨_, rfl, ?_⟩; have n0_ := mkA (Kd.R_elder' (by (with_reducible repeat (first | apply Kd.R_alloc)); exact HO229.out) (Kd.R_base ho0) hb); have n1_ := mkA (Kd.R_elder' (by (with_reducible repeat (first | apply Kd.R_alloc)); exact HO232.out) (Kd.R_base ho1) hb); have n2_ := mkA (Kd.R_below (by (with_reducible repeat (first | apply Kd.R_alloc)); exact HO235.out) hb); have n3_ := mkA (Kd.R_lower (Kd.R_new' ho0 (Kd.R_lt (by (with_reducible repeat (first | apply Kd.R_alloc)); exact HO229.out))) (below_size (by repeat (with_reducible first | exact HB.out | apply below_alloc | apply pw_below_drewN | apply below_drew1 | refine below_set ?_ GE223.out)))); have n4_ := mkA (Kd.R_lower (Kd.R_new' ho1 (Kd.R_lt (by (with_reducible repeat (first | apply Kd.R_alloc)); exact HO232.out))) (below_size (by repeat (with_reducible first | exact HB.out | apply below_alloc | apply pw_below_drewN | apply below_drew1 | refine below_set ?_ GE223.out)))); have n5_ := mkA (blk_below (g := gb223) (o := .cells #[.int .i64 a0_0, .slice A0_1 l0_1.length c0_1, .slice A0_2 l0_2.length c0_2] 25 (0, 0)) (by (with_reducible repeat (first | refine blk_drewN ?_ _)); exact BK223.out) hb); have n6_ := mkA (below_step (by repeat (with_reducible first | exact HB.out | apply below_alloc | apply pw_below_drewN | apply below_drew1 | refine below_set ?_ GE223.out)) hb); clear HO229; clear HO232; clear HO235; clear BK223; clear HB; have HO229 := n0_; have HO232 := n1_; have HO235 := n2_; have HO240 := n3_; have HO243 := n4_; have BK223 := n5_; have HB := n6_; clear n0_ n1_ n2_ n3_ n4_ n5_ n6_; (try clear hb); (try clear hb2); (try clear hk); (try clear hi); (try clear ho0); (try clear ho1); obtain ⟨Ao133, co133, eo133⟩ := Kd.R_slice HO240.out; subst eo133; obtain ⟨Ao134, co134, eo134⟩ := Kd.R_slice HO243.out; subst eo134) | ((with_reducible refine gate_callee (f := 24) rfl ?_); refine goesL_ (some 23) rfl rfl Try.func24 (by kernel_rfl) rfl #[.agg #[.int .i64 t237, .slice Ao133 t238.length co133, .slice Ao134 t241.length co134]] rfl (by (try simp only [List.map_toArray, List.map_cons, List.map_nil]); first | done | rfl | (simp only [List.length_drop, List.length_take]; rfl)) ?_; (with_reducible refine (soap_Owes.calls k t237 _ _ t238 _ _ t241 t244 t247 _ ?side1 ?side2 ?side3 ?side4 A7.out).mono ?_); (case side1 => repeat (first | exact (Kd.R_reads' HO240.out).2.2)); (case side2 => exact (Kd.R_reads' HO240.out).2.1); (case side3 => repeat (first | exact (Kd.R_reads' HO243.out).2.2)); (case side4 => exact (Kd.R_reads' HO243.out).2.1); rintro e w135 ⟨v245, rfl, ho0, hb⟩; refine ⟨_, rfl, ?_⟩; have n0_ := mkA (Kd.R_below (by (with_reducible repeat (first | apply Kd.R_alloc)); exact HO229.out) hb); have n1_ := mkA (Kd.R_below (by (with_reducible repeat (first | apply Kd.R_alloc)); exact HO232.out) hb); have n2_ := mkA (Kd.R_below (by (with_reducible repeat (first | apply Kd.R_alloc)); exact HO235.out) hb); have n3_ := mkA (Kd.R_below (by (with_reducible repeat (first | apply Kd.R_alloc)); exact HO240.out) hb); have n4_ := mkA (Kd.R_below (by (with_reducible repeat (first | apply Kd.R_alloc)); exact HO243.out) hb); have n5_ := mkA (Kd.R_lower ho0 (below_size (by repeat (with_reducible first | exact HB.out | apply below_alloc | apply pw_below_drewN | apply below_drew1 | refine below_set ?_ GE223.out)))); have n6_ := mkA (blk_below (g := gb223) (o := .cells #[.int .i64 a0_0, .slice A0_1 l0_1.length c0_1, .slice A0_2 l0_2.length c0_2] 25 (0, 0)) (by (with_reducible repeat (first | refine blk_drewN ?_ _)); exact BK223.out) hb); have n7_ := mkA (below_step (by repeat (with_reducible first | exact HB.out | apply below_alloc | apply pw_below_drewN | apply below_drew1 | refine below_set ?_ GE223.out)) hb); clear HO229; clear HO232; clear HO235; clear HO240; clear HO243; clear BK223; clear HB; have HO229 := n0_; have HO232 := n1_; have HO235 := n2_; have HO240 := n3_; have HO243 := n4_; have HO246 := n5_; have BK223 := n6_; have HB := n7_; clear n0_ n1_ n2_ n3_ n4_ n5_ n6_ n7_; (try clear hb); (try clear hb2); (try clear hk); (try clear hi); (try clear ho0); have hcz136_0 : w135.cell? ⟨gb223, 0, none⟩ = some (.int .i64 a0_0) := (blk_cell BK223.out 0).trans rfl; have hcz136_1 : w135.cell? ⟨gb223, 1, none⟩ = some (.slice A0_1 l0_1.length c0_1) := (blk_cell BK223.out 1).trans rfl; have hcz136_2 : w135.cell? ⟨gb223, 2, none⟩ = some (.slice A0_2 l0_2.length c0_2) := (blk_cell BK223.out 2).trans rfl; have hfz136_0 := blk_frozen BK223.out 0; have hfz136_1 := blk_frozen BK223.out 1; have hfz136_2 := blk_frozen BK223.out 2) | ((with_reducible refine gate_callee (f := 25) rfl ?_); refine goesL_ (some 28) rfl rfl Try.func25 (by kernel_rfl) rfl #[.agg #[.int .i64 a0_0, .slice A0_1 l0_1.length c0_1, .slice A0_2 l0_2.length c0_2]] rfl (by (try simp only [List.map_toArray, List.map_cons, List.map_nil]); first | done | rfl | (simp only [List.length_drop, List.length_take]; rfl)) ?_; (with_reducible refine (posserlaw08_sure.calls k a0_0 _ _ l0_1 _ _ l0_2 t248 t251 _ ?side1 ?side2 ?side3 ?side4 A8.out).mono ?_); (case side1 => repeat (first | exact (Kd.C_below HR0_1.out HB.out))); (case side2 => exact HC0_1.out); (case side3 => repeat (first | exact (Kd.C_below HR0_2.out HB.out))); (case side4 => exact HC0_2.out); rintro e w137 ⟨v249, rfl, ho0, hb⟩; refine ⟨_, rfl, ?_⟩; have n0_ := mkA (Kd.R_below (by (with_reducible repeat (first | apply Kd.R_alloc)); exact HO229.out) hb); have n1_ := mkA (Kd.R_below (by (with_reducible repeat (first | apply Kd.R_alloc)); exact HO232.out) hb); have n2_ := mkA (Kd.R_below (by (with_reducible repeat (first | apply Kd.R_alloc)); exact HO235.out) hb); have n3_ := mkA (Kd.R_below (by (with_reducible repeat (first | apply Kd.R_alloc)); exact HO240.out) hb); have n4_ := mkA (Kd.R_below (by (with_reducible repeat (first | apply Kd.R_alloc)); exact HO243.out) hb); have n5_ := mkA (Kd.R_below (by (with_reducible repeat (first | apply Kd.R_alloc)); exact HO246.out) hb); have n6_ := mkA (Kd.S_lower (Kd.S_new' ho0 (Kd.R_lt (by (with_reducible repeat (first | apply Kd.R_alloc)); exact HO246.out))) (below_size (by repeat (with_reducible first | exact HB.out | apply below_alloc | apply pw_below_drewN | apply below_drew1 | refine below_set ?_ GE223.out)))); have n7_ := mkA (blk_below (g := gb223) (o := .cells #[.int .i64 a0_0, .slice A0_1 l0_1.length c0_1, .slice A0_2 l0_2.length c0_2] 25 (0, 0)) (by (with_reducible repeat (first | refine blk_drewN ?_ _)); exact BK223.out) hb); have n8_ := mkA (below_step (by repeat (with_reducible first | exact HB.out | apply below_alloc | apply pw_below_drewN | apply below_drew1 | refine below_set ?_ GE223.out)) hb); clear HO229; clear HO232; clear HO235; clear HO240; clear HO243; clear HO246; clear BK223; clear HB; have HO229 := n0_; have HO232 := n1_; have HO235 := n2_; have HO240 := n3_; have HO243 := n4_; have HO246 := n5_; have HO250 := n6_; have BK223 := n7_; have HB := n8_; clear n0_ n1_ n2_ n3_ n4_ n5_ n6_ n7_ n8_; (try clear hb); (try clear hb2); (try clear hk); (try clear hi); (try clear ho0)))
    go_ret
    exact ⟨by first | rfl | (simp [errW_none, errW_some] <;> rfl) | (simp [*, errW_none, errW_some] <;> rfl), by repeat (with_reducible first | exact HB.out | apply below_alloc | apply pw_below_drewN | apply below_drew1 | refine below_set ?_ GE223.out)⟩
 ·replace c3 := Bool.eq_false_iff.mpr c3
  subst c3
  have H1 : ((posserlaw08_awake.f).bind fun t225 => (some t225)) = some r := by rw [if_neg (show ¬ (false = true) by decide)] at H; exact H
  clear H
  have H := H1
  clear H1
  replace H := Option.bind_eq_some_iff.mp H
  obtain ⟨t225, A1380, H⟩ := H
  replace H : (some t225) = some r := H
  have A138 := mkA A1380
  clear A1380
  obtain rfl := Option.some.inj H
  go_enter Try.func3, Try.ntmps3
  go_wp2_with (first | ((with_reducible refine gate_dst (N := 1) rfl ?_); (try (refine gate_guard (by rfl) ?_; dsimp only)); refine box_event ?hg (N := 1) ?hd (cs := #[.int .i64 a0_0, .slice A0_1 l0_1.length c0_1, .slice A0_2 l0_2.length c0_2]) (t := 25) ?hr ?_; (case hd => rfl); (case hg => rfl); (case hr => first | (go_simp; done) | (go_simp; rfl)); intro gb223 hg w139 hbox hb; have n0_ := mkA (below_step (by repeat (with_reducible first | exact HB.out | apply below_alloc | apply pw_below_drewN | apply below_drew1)) hb); have n1_ := mkA (hbox); have n2_ := mkA ((by rw [hg]; exact (below_size (by repeat (with_reducible first | exact HB.out | apply below_alloc | apply pw_below_drewN | apply below_drew1))) : w.heap.size ≤ gb223)); have n3_ := mkA ((by rw [hg]; exact (below_size (by repeat (with_reducible first | exact HB.out | apply below_alloc | apply pw_below_drewN | apply below_drew1))) : w.heap.size ≤ gb223)); clear HB; have HB := n0_; have BK223 := n1_; have GW223 := n2_; have GE223 := n3_; clear n0_ n1_ n2_ n3_; clear hb hbox hg; have hcz140_0 : w139.cell? ⟨gb223, 0, none⟩ = some (.int .i64 a0_0) := (blk_cell BK223.out 0).trans rfl; have hcz140_1 : w139.cell? ⟨gb223, 1, none⟩ = some (.slice A0_1 l0_1.length c0_1) := (blk_cell BK223.out 1).trans rfl; have hcz140_2 : w139.cell? ⟨gb223, 2, none⟩ = some (.slice A0_2 l0_2.length c0_2) := (blk_cell BK223.out 2).trans rfl; have hfz140_0 := blk_frozen BK223.out 0; have hfz140_1 := blk_frozen BK223.out 1; have hfz140_2 := blk_frozen BK223.out 2) | ((with_reducible refine gate_callee (f := 20) rfl ?_); refine goesL_ (some 11) rfl rfl Try.func20 (by kernel_rfl) rfl #[.agg #[.int .i64 a0_0, .slice A0_1 l0_1.length c0_1, .slice A0_2 l0_2.length c0_2]] rfl (by (try simp only [List.map_toArray, List.map_cons, List.map_nil]); first | done | rfl | (simp only [List.length_drop, List.length_take]; rfl)) ?_; (with_reducible refine (posserlaw08_Thin.calls a0_0 _ _ l0_1 _ _ l0_2 false _ ?side1 ?side2 ?side3 ?side4 A2.out).mono ?_); (case side1 => repeat (first | exact (Kd.C_below HR0_1.out HB.out))); (case side2 => exact HC0_1.out); (case side3 => repeat (first | exact (Kd.C_below HR0_2.out HB.out))); (case side4 => exact HC0_2.out); rintro e w141 ⟨rfl, hb⟩; refine ⟨_, rfl, ?_⟩; have n0_ := mkA (blk_below (g := gb223) (o := .cells #[.int .i64 a0_0, .slice A0_1 l0_1.length c0_1, .slice A0_2 l0_2.length c0_2] 25 (0, 0)) (by (with_reducible repeat (first | refine blk_drewN ?_ _)); exact BK223.out) hb); have n1_ := mkA (below_step (by repeat (with_reducible first | exact HB.out | apply below_alloc | apply pw_below_drewN | apply below_drew1 | refine below_set ?_ GE223.out)) hb); clear BK223; clear HB; have BK223 := n0_; have HB := n1_; clear n0_ n1_; (try clear hb); (try clear hb2); (try clear hk); (try clear hi)) | ((with_reducible refine gate_callee (f := 21) rfl ?_); refine goesL_ (some 13) rfl rfl Try.func21 (by kernel_rfl) rfl #[] rfl (by (try simp only [List.map_toArray, List.map_cons, List.map_nil]); first | done | rfl | (simp only [List.length_drop, List.length_take]; rfl)) ?_; (with_reducible refine (posserlaw08_awake.calls  t225 _ A138.out).mono ?_); rintro e w142 ⟨rfl, hb⟩; refine ⟨_, rfl, ?_⟩; have n0_ := mkA (blk_below (g := gb223) (o := .cells #[.int .i64 a0_0, .slice A0_1 l0_1.length c0_1, .slice A0_2 l0_2.length c0_2] 25 (0, 0)) (by (with_reducible repeat (first | refine blk_drewN ?_ _)); exact BK223.out) hb); have n1_ := mkA (below_step (by repeat (with_reducible first | exact HB.out | apply below_alloc | apply pw_below_drewN | apply below_drew1 | refine below_set ?_ GE223.out)) hb); clear BK223; clear HB; have BK223 := n0_; have HB := n1_; clear n0_ n1_; (try clear hb); (try clear hb2); (try clear hk); (try clear hi)))
  go_ret
  exact ⟨by first | rfl | (simp [errW_none, errW_some] <;> rfl) | (simp [*, errW_none, errW_some] <;> rfl), by repeat (with_reducible first | exact HB.out | apply below_alloc | apply pw_below_drewN | apply below_drew1 | refine below_set ?_ GE223.out)⟩
end Go.Proofs.Ytncaadckehikpaa.Q
