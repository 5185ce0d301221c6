/- A part of the proof: contracts of functions and plain facts (HPaid, HLPaid). No condition. -/
import Derived.Test.YtncaadckehikpaaM29
import Derived.Test.YtncaadckehikpaaM25
import Derived.Test.YtncaadckehikpaaM27
import Derived.Test.YtncaadckehikpaaM26
import Derived.Test.YtncaadckehikpaaM28
namespace Go.Proofs.Ytncaadckehikpaa.Q
open Go.RowKit Go.Proofs.YtncaadckehikpaaW.PrintWords Go.Proofs.YtncaadckehikpaaW.PrintLast Go.Proofs.YtncaadckehikpaaW.PrintMore
set_option linter.unusedVariables false
set_option linter.unusedSimpArgs false
section
variable (n : Int) (A1 : Option Addr) (c1 : Nat) (l1 : List S91) (A2 : Option Addr) (c2 : Nat) (l2 : List S94) (a b : Int) (w : World)
  (hr1 : Kd.C k91 w A1 l1.length l1) (hc1 : l1.length ≤ c1) (hr2 : Kd.C k94 w A2 l2.length l2) (hc2 : l2.length ≤ c2)
set_option linter.unusedSectionVars false
include hr1 hc1 hr2 hc2
set_option maxHeartbeats 4000000 in
set_option maxRecDepth 100000 in
theorem paid_no (r : Bool) (f45 : pl_ready.f 100 n l1 l2 = some r) (h5 : r = true → 5 < l1.length) :
    Calls Try.prog 11 #[.agg #[.int .i64 n, .slice A1 l1.length c1, .slice A2 l2.length c2], .int .u16 a, .int .u8 b] w fun e w' => e = .returned (.bool true) ∧ Below w.heap.size w w' := by
  have hu25 := Try.underlying25
  have HB := mkA (z10 (Below.refl w.heap.size w) (.cells #[.int .i64 n, .slice A1 l1.length c1, .slice A2 l2.length c2] 25))
  have HK := mkA (z19 w (.cells #[.int .i64 n, .slice A1 l1.length c1, .slice A2 l2.length c2] 25))
  have H45 := mkA (pl_ready.calls 100 n A1 c1 l1 A2 c2 l2 r _ (Kd.C_below hr1 HB.out) hc1 (Kd.C_below hr2 HB.out) hc2 f45)
  have H5 := mkA h5
  clear hr1 hr2 f45 h5
  go_enter Try.func11, Try.ntmps11
  go_wp2_with fail
  refine H45.out.mono ?_
  rintro e w1 ⟨rfl, hb⟩
  replace HB := mkA (z16 HB.out hb)
  replace HK := mkA (blk_below HK.out hb)
  clear hb H45
  obtain ⟨k0, k1, k2⟩ := box3 HK.out
  cases r with
  | false =>
    go_wp2_with fail
    refine (pl_awake.calls true _ rfl).mono ?_
    rintro e w2 ⟨rfl, hb⟩
    replace HB := mkA (z16 HB.out hb)
    clear hb
    go_wp2
    go_ret
    exact ⟨rfl, HB.out⟩
  | true =>
    have z1 : decide (5 < (l1.length : Int)) = true := decide_eq_true (by have := H5.out rfl; omega)
    have z2 : decide (5 < l1.length) = true := decide_eq_true (H5.out rfl)
    go_wp2_with fail
    refine (pl_awake.calls true _ rfl).mono ?_
    rintro e w2 ⟨rfl, hb⟩
    replace HB := mkA (z16 HB.out hb)
    clear hb
    go_wp2
    go_ret
    exact ⟨rfl, HB.out⟩
set_option maxHeartbeats 4000000 in
set_option maxRecDepth 100000 in
theorem paid_yes (h0 : 0 ≤ a) (ha : a < 65536) (hb0 : 0 ≤ b) (hb1 : b < 256) (f45 : pl_ready.f 100 n l1 l2 = some true) (h5 : l1.length ≤ 5) (h25 : l2.length ≤ 30) (M : Int) (hM : 0 < M) (f47 : pr_Many.f 100 n l1 l2 = some M)
    (T : List Int) (f46 : pr_Nth.f 100 n l1 l2 ((IntKind.i64.wrap a).tmod M) = some T) (X1 : List S122) (X2 : List S124) (hx : SlateOk w (.agg #[.int .i64 n, .slice A1 l1.length c1, .slice A2 l2.length c2]) n X1 X2)
    (f30 : pl_list.f T = some T) (P : List S76) (f49 : soap_Settle.f n X1 X2 T = some (P, 0)) (hP6 : P.length ≤ 1000) (hT6 : T.length ≤ 1000) (PW : List S140) (f51 : pl_payments.f 100 P = some PW) (f50 : pr_ArePayments.f 100 n l1 l2 PW = some true)
    (Q : List S76) (fq : P.length ≠ 0 → (rd_T76 P (b % P.length)).f2 ≤ 40 → soap_Settle.f n ((l1 ++ [(⟨(rd_T76 P (b % P.length)).f0, (rd_T76 P (b % P.length)).f1, ⟨(rd_T76 P (b % P.length)).f2, (rd_T76 P (b % P.length)).f2⟩⟩ : S91)]).map c91) (l2.map c94) (T ++ [(rd_T76 P (b % P.length)).f2]) = some (Q, 0) ∧ Q.length + 1 = P.length) :
    Calls Try.prog 11 #[.agg #[.int .i64 n, .slice A1 l1.length c1, .slice A2 l2.length c2], .int .u16 a, .int .u8 b] w fun e w' => e = .returned (.bool true) ∧ Below w.heap.size w w' := by
  have hu25 := Try.underlying25
  have hu76 := Try.underlying76
  have H45 := mkA (fun (W : World) (hb : Below w.heap.size w W) => pl_ready.calls 100 n A1 c1 l1 A2 c2 l2 true W (Kd.C_below hr1 hb) hc1 (Kd.C_below hr2 hb) hc2 f45)
  have H47 := mkA (fun (W : World) (hb : Below w.heap.size w W) => pr_Many.calls 100 n A1 c1 l1 A2 c2 l2 M W (Kd.C_below hr1 hb) hc1 (Kd.C_below hr2 hb) hc2 f47)
  have H46 := mkA (fun (W : World) (hb : Below w.heap.size w W) => pr_Nth.calls 100 n A1 c1 l1 A2 c2 l2 _ T W (Kd.C_below hr1 hb) hc1 (Kd.C_below hr2 hb) hc2 f46)
  have H50 := mkA (fun (W : World) (hb : Below w.heap.size w W) (PT : Option Addr) (dT : Nat) (hT : Kd.C k140 W PT PW.length PW) (h : PW.length ≤ dT) => pr_ArePayments.calls 100 n A1 c1 l1 A2 c2 l2 PT dT PW true W (Kd.C_below hr1 hb) hc1 (Kd.C_below hr2 hb) hc2 hT h f50)
  have HX := mkA hx
  have F30 := mkA f30
  have F49 := mkA f49
  have F51 := mkA f51
  have FQ := mkA fq
  have HT6 := mkA hT6
  have HR1 := mkA hr1
  have HR2 := mkA hr2
  clear hx hr1 hr2 f45 f47 f46 f30 f49 f51 f50 fq hT6
  have HB := mkA (z10 (Below.refl w.heap.size w) (.cells #[.int .i64 n, .slice A1 l1.length c1, .slice A2 l2.length c2] 25))
  have HK := mkA (z19 w (.cells #[.int .i64 n, .slice A1 l1.length c1, .slice A2 l2.length c2] 25))
  have z1 : decide (5 < (l1.length : Int)) = false := decide_eq_false (by omega)
  have z2 : decide (5 < l1.length) = false := decide_eq_false (by omega)
  go_enter Try.func11, Try.ntmps11
  go_wp2_with fail
  refine (H45.out _ HB.out).mono ?_
  rintro e w1 ⟨rfl, hb⟩
  replace HB := mkA (z16 HB.out hb)
  replace HK := mkA (blk_below HK.out hb)
  clear hb
  obtain ⟨k0, k1, k2⟩ := box3 HK.out
  go_wp2_with fail
  have HBL := mkA (show Below w1.heap.size w1 w1.drew from z12 (Below.refl _ _))
  have HKS := mkA (fun (W' : World) (hb : Below w1.heap.size w1 W') => box3 (blk_below HK.out hb))
  have hM1 : M ≠ 0 := by omega
  have hM2 : (M == 0) = false := by rw [beq_eq_false_iff_ne]; omega
  go_region_held3 (fun w' => w'.cell? ⟨w.heap.size, 0, none⟩ = some (.int .i64 n) ∧ w'.cell? ⟨w.heap.size, 1, none⟩ = some (.slice A1 l1.length c1) ∧ w'.cell? ⟨w.heap.size, 2, none⟩ = some (.slice A2 l2.length c2)) (exact HKS.out _ HBL.out) (first | ((with_reducible refine (H47.out _ (z16 HB.out HBL.out)).mono ?_); rintro e w2 ⟨rfl, hb⟩; replace HBL := mkA (z16 HBL.out hb); clear hb) | ((with_reducible refine (H46.out _ (z16 HB.out HBL.out)).mono ?_); rintro e w3 ⟨vT, rfl, hl, hb⟩; replace HBL := mkA (z16 HBL.out hb); have LT := mkA hl; clear hl hb) | fail)
  replace HB := mkA (z16 HB.out HBL.out)
  replace HK := mkA (blk_below HK.out HBL.out)
  clear HKS HBL k0 k1 k2 H45 H47 H46 z1 z2
  obtain ⟨PT, dT, rfl, qT, RT⟩ := Kd.R_reads LT.out
  clear RT
  have LTR := LT
  clear LT
  have LT := mkA (Kd.R_reads' LTR.out).2.2
  obtain ⟨k0, k1, k2⟩ := box3 HK.out
  go_wp2_with fail
  refine (HX.out _ HB.out).mono ?_
  rintro e w4 ⟨B1, d1, B2, d2, rfl, h1, h2, h3, h4, hb⟩
  replace HB := mkA (z16 HB.out hb)
  replace HK := mkA (blk_below HK.out hb)
  replace LTR := mkA (Kd.R_below LTR.out hb)
  replace LT := mkA (Kd.C_below LT.out hb)
  clear hb
  have P1 := mkA h1
  clear h1
  have P2 := mkA h3
  clear h3
  clear k0 k1 k2
  go_wp2_with fail
  refine (pl_list.calls PT dT T T _ LT.out qT F30.out).mono ?_
  rintro e w5 ⟨vl, rfl, hl, hb⟩
  replace HB := mkA (z16 HB.out hb)
  replace HK := mkA (blk_below HK.out hb)
  replace LTR := mkA (Kd.R_below LTR.out hb)
  replace LT := mkA (Kd.C_below LT.out hb)
  replace P1 := mkA (Kd.C_below P1.out hb)
  replace P2 := mkA (Kd.C_below P2.out hb)
  clear hb
  have LL := mkA hl
  clear hl
  obtain ⟨PL_, dL, rfl, qL, RL⟩ := Kd.R_reads LL.out
  clear LL
  have LL := mkA RL
  clear RL
  go_wp2_with fail
  refine (soap_Settle.calls n B1 d1 X1 B2 d2 X2 PL_ dL T _ _ _ P1.out h2 P2.out h4 LL.out qL F49.out).mono ?_
  rintro e w6 ⟨vS, rfl, hl, hb⟩
  replace HB := mkA (z16 HB.out hb)
  replace HK := mkA (blk_below HK.out hb)
  replace LTR := mkA (Kd.R_below LTR.out hb)
  replace LT := mkA (Kd.C_below LT.out hb)
  replace P1 := mkA (Kd.C_below P1.out hb)
  replace P2 := mkA (Kd.C_below P2.out hb)
  replace LL := mkA (Kd.C_below LL.out hb)
  clear hb
  have LS := mkA hl
  clear hl
  obtain ⟨PS, dS, rfl, qS, RS⟩ := Kd.R_reads LS.out
  clear LS
  have LS := mkA RS
  clear RS
  clear P1 P2 h2 h4 LL qL
  by_cases hz : P.length = 0
  · have z4 : ((P.length : Int) == 0) = true := by rw [beq_iff_eq]; omega
    clear hz
    go_wp2_with fail
    refine (pl_awake.calls true _ rfl).mono ?_
    rintro e w7 ⟨rfl, hb⟩
    replace HB := mkA (z16 HB.out hb)
    replace HK := mkA (blk_below HK.out hb)
    replace LTR := mkA (Kd.R_below LTR.out hb)
    replace LT := mkA (Kd.C_below LT.out hb)
    replace LS := mkA (Kd.C_below LS.out hb)
    clear hb
    go_wp2
    go_ret
    exact ⟨rfl, HB.out⟩
  · have z4 : ((P.length : Int) == 0) = false := by rw [beq_eq_false_iff_ne]; omega
    have z5 : (0 : Int) < P.length := by omega
    have FR := mkA (FQ.out hz)
    clear FQ hz
    have z6 : 0 ≤ b % (P.length : Int) := Int.emod_nonneg _ (by omega)
    have z7 : b % (P.length : Int) < P.length := Int.emod_lt_of_pos _ z5
    obtain ⟨j, hj⟩ : ∃ j, b % (P.length : Int) = j := ⟨_, rfl⟩
    rw [hj] at FR z6 z7
    obtain ⟨ad, e1, x0, x1, x2⟩ := at_T76 LS.out j z6 z7
    subst e1
    generalize rd_T76 P j = x at FR x0 x1 x2
    go_wp2_with fail
    have HM := mkA (z19 w6 (.cells #[.int .i64 x.f0, .int .i64 x.f1, .int .i64 x.f2] 76))
    clear x0 x1 x2
    generalize hw7 : w6.alloc (.cells #[.int .i64 x.f0, .int .i64 x.f1, .int .i64 x.f2] 76) = w7 at HM
    have hb : Below w6.heap.size w6 w7 := by rw [← hw7]; exact z10 (Below.refl _ _) _
    clear hw7
    replace HB := mkA (z16 HB.out hb)
    replace HK := mkA (blk_below HK.out hb)
    replace LTR := mkA (Kd.R_below LTR.out hb)
    replace LT := mkA (Kd.C_below LT.out hb)
    replace LS := mkA (Kd.C_below LS.out hb)
    clear hb
    have HBL := mkA (show Below w7.heap.size w7 w7.drew from z12 (Below.refl _ _))
    have HKS := mkA (fun (W' : World) (hb : Below w7.heap.size w7 W') => box3 (blk_below HK.out hb))
    go_region_held3 (fun w' => w'.cell? ⟨w.heap.size, 0, none⟩ = some (.int .i64 n) ∧ w'.cell? ⟨w.heap.size, 1, none⟩ = some (.slice A1 l1.length c1) ∧ w'.cell? ⟨w.heap.size, 2, none⟩ = some (.slice A2 l2.length c2)) (exact HKS.out _ HBL.out) (first | ((with_reducible refine (pl_payments.calls 100 _ _ P PW _ (Kd.C_below LS.out HBL.out) qS F51.out).mono ?_); rintro e w8 ⟨vW, rfl, hl, hb⟩; obtain ⟨PV, dV, rfl, qV, RV⟩ := Kd.R_reads hl; replace HBL := mkA (z16 HBL.out hb); have LV := mkA RV; clear RV hl hb) | ((with_reducible refine (H50.out _ (z16 HB.out HBL.out) _ _ LV.out qV).mono ?_); rintro e w9 ⟨rfl, hb⟩; replace HBL := mkA (z16 HBL.out hb); clear hb LV qV))
    replace HB := mkA (z16 HB.out HBL.out)
    replace HK := mkA (blk_below HK.out HBL.out)
    replace LTR := mkA (Kd.R_below LTR.out HBL.out)
    replace LT := mkA (Kd.C_below LT.out HBL.out)
    replace LS := mkA (Kd.C_below LS.out HBL.out)
    replace HM := mkA (blk_below HM.out HBL.out)
    clear HKS HBL H50
    obtain ⟨x0, x1, x2⟩ := box3 HM.out
    obtain ⟨k0, k1, k2⟩ := box3 HK.out
    by_cases hz : 40 < x.f2
    · have z8 : decide (40 < x.f2) = true := decide_eq_true hz
      clear hz
      go_wp2_with fail
      refine (pl_awake.calls true _ rfl).mono ?_
      rintro e w10 ⟨rfl, hb⟩
      replace HB := mkA (z16 HB.out hb)
      replace HK := mkA (blk_below HK.out hb)
      replace LTR := mkA (Kd.R_below LTR.out hb)
      replace LT := mkA (Kd.C_below LT.out hb)
      replace LS := mkA (Kd.C_below LS.out hb)
      replace HM := mkA (blk_below HM.out hb)
      clear hb
      go_wp2
      go_ret
      exact ⟨rfl, HB.out⟩
    · have z8 : decide (40 < x.f2) = false := decide_eq_false hz
      have FS := mkA (FR.out (by omega))
      clear hz FR
      have HS0 := mkA (z23 HK.out)
      have HS9 := mkA (z23 HM.out)
      go_wp2_with fail
      have HY := mkA (z19 w9 (.cells #[.int .i64 n, .slice A1 l1.length c1, .slice A2 l2.length c2] 25))
      generalize hw10 : w9.alloc (.cells #[.int .i64 n, .slice A1 l1.length c1, .slice A2 l2.length c2] 25) = w10 at HY
      have hb : Below w9.heap.size w9 w10 := by rw [← hw10]; exact z10 (Below.refl _ _) _
      clear hw10
      replace HB := mkA (z16 HB.out hb)
      replace HK := mkA (blk_below HK.out hb)
      replace LTR := mkA (Kd.R_below LTR.out hb)
      replace LT := mkA (Kd.C_below LT.out hb)
      replace LS := mkA (Kd.C_below LS.out hb)
      replace HM := mkA (blk_below HM.out hb)
      clear hb x0 x1 x2 k0 k1 k2
      have HBL := mkA (show Below w10.heap.size w10 w10.drew from z12 (Below.refl _ _))
      have hx0 := box3 HK.out
      have hx1 := box3 HM.out
      have hlt0 := z23 HK.out
      have hlt1 := z23 HM.out
      have hlt2 := z23 HY.out
      have hs9 : w6.heap.size < w9.heap.size := HS9.out
      have hs0 : w.heap.size < w9.heap.size := HS0.out
      have HKS := mkA (fun (W' : World) (hb : ∀ k, k < w10.heap.size → k ≠ w9.heap.size → W'.heap[k]? = w10.heap[k]?) => (⟨(box3 ((hb _ hlt0 (by omega)).trans HK.out)).1, (box3 ((hb _ hlt0 (by omega)).trans HK.out)).2.1, (box3 ((hb _ hlt0 (by omega)).trans HK.out)).2.2, (box3 ((hb _ hlt1 (by omega)).trans HM.out)).1, (box3 ((hb _ hlt1 (by omega)).trans HM.out)).2.1, (box3 ((hb _ hlt1 (by omega)).trans HM.out)).2.2⟩ : W'.cell? ⟨w.heap.size, 0, none⟩ = some (.int .i64 n) ∧ W'.cell? ⟨w.heap.size, 1, none⟩ = some (.slice A1 l1.length c1) ∧ W'.cell? ⟨w.heap.size, 2, none⟩ = some (.slice A2 l2.length c2) ∧ W'.cell? ⟨w6.heap.size, 0, none⟩ = some (.int .i64 x.f0) ∧ W'.cell? ⟨w6.heap.size, 1, none⟩ = some (.int .i64 x.f1) ∧ W'.cell? ⟨w6.heap.size, 2, none⟩ = some (.int .i64 x.f2)))
      clear hx0 hx1
      go_region_held3 (fun w' => w'.cell? ⟨w.heap.size, 0, none⟩ = some (.int .i64 n) ∧ w'.cell? ⟨w.heap.size, 1, none⟩ = some (.slice A1 l1.length c1) ∧ w'.cell? ⟨w.heap.size, 2, none⟩ = some (.slice A2 l2.length c2) ∧ w'.cell? ⟨w6.heap.size, 0, none⟩ = some (.int .i64 x.f0) ∧ w'.cell? ⟨w6.heap.size, 1, none⟩ = some (.int .i64 x.f1) ∧ w'.cell? ⟨w6.heap.size, 2, none⟩ = some (.int .i64 x.f2)) (exact HKS.out _ (fun k q1 q2 => by first | exact (Below.heap_setCell _ _ _ _ q2).trans (HBL.out.block k q1) | exact (Below.block (by repeat (first | exact HBL.out | apply z12 | apply z10 | exact Below.refl _ _)) k q1))) (first | ((with_reducible refine at_w (World.drew (World.alloc w10 _)) ?_); (refine z47 k91 (w0 := w10) (by rfl) (.tmp 63) (.tmp 65) 22 91 (.agg #[(.int .i64 0), (.int .i64 0), (.int .i64 0), (.int .i64 0)]) 32 (by rfl) Try.underlying22 info91 (by rfl) (by decide) (by omega) (.slice (some ⟨w10.heap.size, 0, none⟩) 0 0) [] l1 A1 l1.length c1 (by rfl) (by rfl) (R_none (z19 w10 _) (by omega)) (Kd.C_below HR1.out (z16 HB.out (by repeat (first | exact HBL.out | apply z12 | apply z10 | exact Below.refl _ _)))) (fun _ _ h => h) (by repeat (first | exact HBL.out | apply z12 | apply z10 | exact Below.refl _ _)) (by simp; omega) ?_); intro v66 w11 ho hb hg hat; clear HBL; have HBL := mkA hb; have LO := mkA ho; clear ho hb hg hat) | ((with_reducible refine at_w (World.drew (World.alloc (World.alloc w10 (.cells #[] 91)) _)) ?_); (refine z47 k91 (w0 := w10) (by rfl) (.tmp 63) (.tmp 65) 22 91 (.agg #[(.int .i64 0), (.int .i64 0), (.int .i64 0), (.int .i64 0)]) 32 (by rfl) Try.underlying22 info91 (by rfl) (by decide) (by omega) (.slice (some ⟨w10.heap.size, 0, none⟩) 0 0) [] l1 A1 l1.length c1 (by rfl) (by rfl) (R_none (heap_first w10 _ _) (by omega)) (Kd.C_below HR1.out (z16 HB.out (by repeat (first | exact HBL.out | apply z12 | apply z10 | exact Below.refl _ _)))) (fun _ _ h => h) (by repeat (first | exact HBL.out | apply z12 | apply z10 | exact Below.refl _ _)) (by simp; omega) ?_); intro v66 w11 ho hb hg hat; have H77 := mkA (z40 (z38 (heap_second w10 (.cells #[] 91) (.cells #[.int .i64 x.f0, .int .i64 x.f1, .int .i64 x.f2, .int .i64 x.f2] 91))) hg (by simp [Value.ownBlock])); clear HBL; have HBL := mkA hb; have LO := mkA ho; clear ho hb hg hat) | ((with_reducible refine at_w (World.drew (World.alloc (World.alloc w10 (.cells #[_, _, _, _] 91)) _)) ?_); (refine z47 k91 (w0 := w10) (by rfl) (.tmp 63) (.tmp 65) 22 91 (.agg #[(.int .i64 0), (.int .i64 0), (.int .i64 0), (.int .i64 0)]) 32 (by rfl) Try.underlying22 info91 (by rfl) (by decide) (by omega) (.slice (some ⟨(w10.heap.size + 1), 0, none⟩) 0 0) [] l1 A1 l1.length c1 (by rfl) (by rfl) (R_none (heap_second w10 _ _) (by omega)) (Kd.C_below HR1.out (z16 HB.out (by repeat (first | exact HBL.out | apply z12 | apply z10 | exact Below.refl _ _)))) (fun _ _ h => h) (by repeat (first | exact HBL.out | apply z12 | apply z10 | exact Below.refl _ _)) (by simp; omega) ?_); intro v66 w11 ho hb hg hat; have H77 := mkA (z40 (z38 (heap_first w10 (.cells #[.int .i64 x.f0, .int .i64 x.f1, .int .i64 x.f2, .int .i64 x.f2] 91) (.cells #[] 91))) hg (by simp [Value.ownBlock])); clear HBL; have HBL := mkA hb; have LO := mkA ho; clear ho hb hg hat) | ((with_reducible refine at_w (World.alloc w11 _) ?_); (refine z47 k91 (w0 := w10) (by rfl) (.tmp 66) (.tmp 77) 22 91 (.agg #[(.int .i64 0), (.int .i64 0), (.int .i64 0), (.int .i64 0)]) 32 (by rfl) Try.underlying22 info91 (by rfl) (by decide) (by omega) v66 _ [(⟨x.f0, x.f1, ⟨x.f2, x.f2⟩⟩ : S91)] (some ⟨w11.heap.size, 0, none⟩) 1 1 (by rfl) (by rfl) (by first | exact LO.out | exact Kd.R_below LO.out (z10 (Below.refl _ _) _)) (C_block k91 cells91 (fun x => k91_mk _ x) [(⟨x.f0, x.f1, ⟨x.f2, x.f2⟩⟩ : S91)] (by simp) (z19 w11 _)) (fun _ _ h => h) (by repeat (first | exact HBL.out | apply z12 | apply z10 | exact Below.refl _ _)) (by simp; omega) ?_); intro v78 w12 ho2 hb hg hat; clear HBL; have HBL := mkA hb; have f1 := z14 (blk_below HY.out hb) 1; have y1 : w12.cell? ⟨w9.heap.size, 1, none⟩ = some (.slice A1 l1.length c1) := (box3 (blk_below HY.out hb)).2.1; obtain ⟨PN, dN, hv, qN, RN⟩ := Kd.R_reads ho2; simp only [List.nil_append, List.length_append, List.length_cons, List.length_nil, Nat.zero_add] at hv ho2 qN; subst hv; have LN := mkA ho2; clear RN ho2 hb hg hat) | ((with_reducible refine at_w w11 ?_); (refine z47 k91 (w0 := w10) (by rfl) (.tmp 66) (.tmp 77) 22 91 (.agg #[(.int .i64 0), (.int .i64 0), (.int .i64 0), (.int .i64 0)]) 32 (by rfl) Try.underlying22 info91 (by rfl) (by decide) (by omega) v66 _ [(⟨x.f0, x.f1, ⟨x.f2, x.f2⟩⟩ : S91)] (some ⟨w10.heap.size, 0, none⟩) 1 1 (by rfl) (by rfl) (by first | exact LO.out | exact Kd.R_below LO.out (z10 (Below.refl _ _) _)) (C_block k91 cells91 (fun x => k91_mk _ x) [(⟨x.f0, x.f1, ⟨x.f2, x.f2⟩⟩ : S91)] (by simp) H77.out) (fun _ _ h => h) (by repeat (first | exact HBL.out | apply z12 | apply z10 | exact Below.refl _ _)) (by simp; omega) ?_); intro v78 w12 ho2 hb hg hat; clear HBL; have HBL := mkA hb; have f1 := z14 (blk_below HY.out hb) 1; have y1 : w12.cell? ⟨w9.heap.size, 1, none⟩ = some (.slice A1 l1.length c1) := (box3 (blk_below HY.out hb)).2.1; obtain ⟨PN, dN, hv, qN, RN⟩ := Kd.R_reads ho2; simp only [List.nil_append, List.length_append, List.length_cons, List.length_nil, Nat.zero_add] at hv ho2 qN; subst hv; have LN := mkA ho2; clear RN ho2 hb hg hat) | ((with_reducible refine at_w w11 ?_); (refine z47 k91 (w0 := w10) (by rfl) (.tmp 66) (.tmp 77) 22 91 (.agg #[(.int .i64 0), (.int .i64 0), (.int .i64 0), (.int .i64 0)]) 32 (by rfl) Try.underlying22 info91 (by rfl) (by decide) (by omega) v66 _ [(⟨x.f0, x.f1, ⟨x.f2, x.f2⟩⟩ : S91)] (some ⟨(w10.heap.size + 1), 0, none⟩) 1 1 (by rfl) (by rfl) (by first | exact LO.out | exact Kd.R_below LO.out (z10 (Below.refl _ _) _)) (C_block k91 cells91 (fun x => k91_mk _ x) [(⟨x.f0, x.f1, ⟨x.f2, x.f2⟩⟩ : S91)] (by simp) H77.out) (fun _ _ h => h) (by repeat (first | exact HBL.out | apply z12 | apply z10 | exact Below.refl _ _)) (by simp; omega) ?_); intro v78 w12 ho2 hb hg hat; clear HBL; have HBL := mkA hb; have f1 := z14 (blk_below HY.out hb) 1; have y1 : w12.cell? ⟨w9.heap.size, 1, none⟩ = some (.slice A1 l1.length c1) := (box3 (blk_below HY.out hb)).2.1; obtain ⟨PN, dN, hv, qN, RN⟩ := Kd.R_reads ho2; simp only [List.nil_append, List.length_append, List.length_cons, List.length_nil, Nat.zero_add] at hv ho2 qN; subst hv; have LN := mkA ho2; clear RN ho2 hb hg hat) | fail)
      all_goals
        have b12 := HBL.out
        have HY2 := mkA (show (w12.setCell ⟨w9.heap.size, 1, none⟩ (.slice PN (l1.length + 1) dN)).heap[w9.heap.size]? = some (.cells #[.int .i64 n, .slice PN (l1.length + 1) dN, .slice A2 l2.length c2] 25 (0, 0)) from blk_put (cs := #[.int .i64 n, .slice A1 l1.length c1, .slice A2 l2.length c2]) (blk_below HY.out b12) 1 _ rfl)
        have HM2 := mkA (show (w12.setCell ⟨w9.heap.size, 1, none⟩ (.slice PN (l1.length + 1) dN)).heap[w6.heap.size]? = some (.cells #[.int .i64 x.f0, .int .i64 x.f1, .int .i64 x.f2] 76 (0, 0)) from blk_far (blk_below HM.out b12) (show w6.heap.size ≠ w9.heap.size by omega) _)
        have HB2 := mkA (show Below w.heap.size w (w12.setCell ⟨w9.heap.size, 1, none⟩ (.slice PN (l1.length + 1) dN)) from z15 (z16 HB.out b12) (by omega))
        have LT2 := mkA (show Kd.R (Kd.int .i64) 3 (w12.setCell ⟨w9.heap.size, 1, none⟩ (.slice PN (l1.length + 1) dN)) _ _ _ T from Kd.R_set (Kd.R_below LTR.out b12) (blk_below HY.out b12) (by decide) 1 _)
        have LN2 := mkA (show Kd.R k91 91 (w12.setCell ⟨w9.heap.size, 1, none⟩ (.slice PN (l1.length + 1) dN)) _ _ _ _ from Kd.R_set LN.out (blk_below HY.out b12) (by decide) 1 _)
        clear b12 f1 y1 HBL HKS HY HM HB LTR LT LN HK LS
        generalize (w12.setCell ⟨w9.heap.size, 1, none⟩ (.slice PN (l1.length + 1) dN)) = w13 at HY2 HM2 HB2 LT2 LN2 ⊢
        have HR94 := mkA (Kd.C_below HR2.out HB2.out)
        obtain ⟨en, qn, CN⟩ := Kd.R_reads' LN2.out
        clear en
        have HZ := mkA (slate_ok n PN (l1.length + 1) dN (l1 ++ [(⟨x.f0, x.f1, ⟨x.f2, x.f2⟩⟩ : S91)]) A2 l2.length c2 l2 w13 (by simpa using CN) qn HR94.out hc2 (by simp; omega) h25)
        clear HR94 qn CN qN LN2
        obtain ⟨fs, fe⟩ := FS.out
        obtain ⟨Y1, hY1⟩ : ∃ Y, (l1 ++ [(⟨x.f0, x.f1, ⟨x.f2, x.f2⟩⟩ : S91)]).map c91 = Y := ⟨_, rfl⟩
        obtain ⟨Y2, hY2⟩ : ∃ Y, l2.map c94 = Y := ⟨_, rfl⟩
        obtain ⟨T2, hT2⟩ : ∃ Y, T ++ [x.f2] = Y := ⟨_, rfl⟩
        rw [hY1, hY2] at HZ
        rw [hY1, hY2, hT2] at fs
        have F50 := mkA fs
        have z9 : ((Q.length : Int) == (P.length : Int) - 1) = true := by rw [beq_iff_eq]; omega
        have HT2 := mkA hT2
        clear fs fe FS hY1 hY2 hT2
        go_wp2_with fail
        have HBL := mkA (show Below w13.heap.size w13 w13.drew from z12 (Below.refl _ _))
        have HKS := mkA (fun (W' : World) (hb : Below w13.heap.size w13 W') => (⟨(box3 (blk_below HY2.out hb)).1, (box3 (blk_below HY2.out hb)).2.1, (box3 (blk_below HY2.out hb)).2.2, (box3 (blk_below HM2.out hb)).2.2⟩ : W'.cell? ⟨w9.heap.size, 0, none⟩ = some (.int .i64 n) ∧ W'.cell? ⟨w9.heap.size, 1, none⟩ = some (.slice PN (l1.length + 1) dN) ∧ W'.cell? ⟨w9.heap.size, 2, none⟩ = some (.slice A2 l2.length c2) ∧ W'.cell? ⟨w6.heap.size, 2, none⟩ = some (.int .i64 x.f2)))
        go_region_held3 (fun w' => w'.cell? ⟨w9.heap.size, 0, none⟩ = some (.int .i64 n) ∧ w'.cell? ⟨w9.heap.size, 1, none⟩ = some (.slice PN (l1.length + 1) dN) ∧ w'.cell? ⟨w9.heap.size, 2, none⟩ = some (.slice A2 l2.length c2) ∧ w'.cell? ⟨w6.heap.size, 2, none⟩ = some (.int .i64 x.f2)) (exact HKS.out _ (by first | exact z16 HBL.out H14.out | exact z16 HBL.out (z10 H14.out _) | exact HBL.out | exact z10 HBL.out _ | exact z12 (z10 (Below.refl _ _) _))) (first | ((with_reducible refine at_c (World.drew w13) ?_); (refine (HZ.out _ (z12 (Below.refl _ _))).mono ?_); rintro e w14 ⟨B1, d1, B2, d2, rfl, h1, h2, h3, h4, hb⟩; replace HBL := mkA (z16 (z12 (Below.refl _ _)) hb); have P1 := mkA h1; have P2 := mkA h3; clear h1 h3 hb) | ((with_reducible refine at_c (World.drew (World.alloc w13 _)) ?_); (refine (HZ.out _ (z12 (z10 (Below.refl _ _) _))).mono ?_); rintro e w14 ⟨B1, d1, B2, d2, rfl, h1, h2, h3, h4, hb⟩; have H87 := mkA (blk_below (z38 (z19 w13 (.cells #[.int .i64 x.f2] 3))) hb); replace HBL := mkA (z16 (z12 (z10 (Below.refl _ _) _)) hb); have P1 := mkA h1; have P2 := mkA h3; clear h1 h3 hb) | ((with_reducible refine at_c w14 ?_); (refine (pl_list.calls PT dT T T _ (Kd.R_reads' (Kd.R_below LT2.out (z16 HBL.out (Below.refl _ _)))).2.2 qT F30.out).mono ?_); rintro e w15 ⟨vl, rfl, hl, hb⟩; (first | replace H87 := mkA (blk_below H87.out hb) | skip); have H14 := mkA (z16 (Below.refl _ _) hb); have LL := mkA (Kd.R_lower hl (show w14.heap.size ≤ _ from Nat.le_refl _)); clear hl hb) | ((with_reducible refine at_c (World.alloc w14 _) ?_); (refine (pl_list.calls PT dT T T _ (Kd.R_reads' (Kd.R_below LT2.out (z16 HBL.out (z10 (Below.refl _ _) _)))).2.2 qT F30.out).mono ?_); rintro e w15 ⟨vl, rfl, hl, hb⟩; have H87 := mkA (blk_below (z19 w14 (.cells #[.int .i64 x.f2] 3)) hb); have H14 := mkA (z16 (z10 (Below.refl _ _) _) hb); have LL := mkA (Kd.R_lower hl (show w14.heap.size ≤ _ from Below.size (z10 (Below.refl w14.heap.size w14) _))); clear hl hb) | ((with_reducible refine at_w (World.alloc w15 _) ?_); (refine z47 (Kd.int .i64) (w0 := w14) (by rfl) (.tmp 84) (.tmp 87) 37 3 (.int .i64 0) 8 (by rfl) Try.underlying37 info3 (by rfl) (by decide) (by omega) _ T [x.f2] (some ⟨w15.heap.size, 0, none⟩) 1 1 (by rfl) (by rfl) (Kd.R_below LL.out (z10 (Below.refl _ _) _)) (C_ints [x.f2] (by simp) (z19 w15 _)) (fun _ _ h => h) (z10 H14.out _) (by have := HT6.out; simp; omega) ?_); intro v88 w16 ho2 hb hg hat; rw [HT2.out] at ho2; obtain ⟨PA, dA, hv, qA, RA⟩ := Kd.R_reads ho2; subst hv; replace H14 := mkA hb; have LA := mkA RA; clear RA ho2 hb hg hat LL) | ((with_reducible refine at_w w15 ?_); (refine z47 (Kd.int .i64) (w0 := w14) (by rfl) (.tmp 84) (.tmp 87) 37 3 (.int .i64 0) 8 (by rfl) Try.underlying37 info3 (by rfl) (by decide) (by omega) _ T [x.f2] (some ⟨w13.heap.size, 0, none⟩) 1 1 (by rfl) (by rfl) LL.out (C_ints [x.f2] (by simp) H87.out) (fun _ _ h => h) H14.out (by have := HT6.out; simp; omega) ?_); intro v88 w16 ho2 hb hg hat; rw [HT2.out] at ho2; obtain ⟨PA, dA, hv, qA, RA⟩ := Kd.R_reads ho2; subst hv; replace H14 := mkA hb; have LA := mkA RA; clear RA ho2 hb hg hat LL) | ((with_reducible refine at_w w15 ?_); (refine z47 (Kd.int .i64) (w0 := w14) (by rfl) (.tmp 84) (.tmp 87) 37 3 (.int .i64 0) 8 (by rfl) Try.underlying37 info3 (by rfl) (by decide) (by omega) _ T [x.f2] (some ⟨w14.heap.size, 0, none⟩) 1 1 (by rfl) (by rfl) LL.out (C_ints [x.f2] (by simp) H87.out) (fun _ _ h => h) H14.out (by have := HT6.out; simp; omega) ?_); intro v88 w16 ho2 hb hg hat; rw [HT2.out] at ho2; obtain ⟨PA, dA, hv, qA, RA⟩ := Kd.R_reads ho2; subst hv; replace H14 := mkA hb; have LA := mkA RA; clear RA ho2 hb hg hat LL) | ((with_reducible refine at_c w16 ?_); (refine (soap_Settle.calls n B1 d1 Y1 B2 d2 Y2 PA dA T2 _ _ _ (Kd.C_below P1.out H14.out) h2 (Kd.C_below P2.out H14.out) h4 LA.out qA F50.out).mono ?_); rintro e w17 ⟨vS2, rfl, hl, hb⟩; obtain ⟨P9, d9, rfl, q9, R9⟩ := Kd.R_reads hl; replace H14 := mkA (z16 H14.out hb); clear hl hb R9) | fail)
        all_goals
          have HF := mkA (z16 (z16 HB2.out HBL.out) H14.out)
          clear HB2 HBL H14 HKS P1 P2 h2 h4 LA HX F30 F49 F51 F50 HT2 HT6 HR1 HR2 HZ LT2 HY2 HM2
          go_wp2_with fail
          refine (pl_awake.calls true _ rfl).mono ?_
          rintro e w18 ⟨rfl, hb⟩
          replace HF := mkA (z16 HF.out hb)
          clear hb
          go_wp2
          go_ret
          exact ⟨rfl, HF.out⟩
end
end Go.Proofs.Ytncaadckehikpaa.Q
namespace Go.Proofs.Ytncaadckehikpaa.Q
open Go.RowKit Go.Proofs.YtncaadckehikpaaW.PrintWords Go.Proofs.YtncaadckehikpaaW.PrintLast Go.Proofs.YtncaadckehikpaaW.PrintMore
set_option linter.unusedVariables false
set_option linter.unusedSimpArgs false
theorem rd_app (T : List Int) (k : Int) (i : Nat) : rd (T ++ [k]) (i : Int) = if i < T.length then rd T i else if i = T.length then k else 0 := by
  simp only [rd, Int.toNat_natCast, List.getD_eq_getElem?_getD]
  by_cases h : i < T.length
  · rw [if_pos h, List.getElem?_append_left h]
  · rw [if_neg h, List.getElem?_append_right (by omega)]
    by_cases e : i = T.length
    · rw [if_pos e, e]; simp
    · rw [if_neg e]
      have : [k][i - T.length]? = none := by rw [List.getElem?_eq_none]; simp; omega
      rw [this]; rfl
theorem rd122_app (L : List S122) (e : S122) (i : Nat) (h : i ≤ L.length) : rd_T122 (L ++ [e]) (i : Int) = if i < L.length then rd_T122 L (i : Int) else e := by
  simp only [rd_T122, Int.toNat_natCast, List.getD_eq_getElem?_getD]
  by_cases h2 : i < L.length
  · rw [if_pos h2, List.getElem?_append_left h2]
  · rw [if_neg h2, List.getElem?_append_right (by omega), show i - L.length = 0 by omega]; rfl
theorem owedTo_app (L : List S122) (e : S122) (T : List Int) (k : Int) (hl : T.length = L.length) : ∀ m : Nat, m ≤ L.length → owedTo (L ++ [e]) (T ++ [k]) m = owedTo L T m
  | 0, _ => rfl
  | m + 1, h => by
    simp only [owedTo]
    rw [owedTo_app L e T k hl m (by omega), rd122_app L e m (by omega), rd_app T k m, if_pos (by omega), if_pos (by omega)]
/-- One more entry is one more payment. -/
theorem owedL_app (L : List S122) (e : S122) (T : List Int) (k : Int) (hl : T.length = L.length) : owedL (L ++ [e]) (T ++ [k]) = pay1 (owedL L T) ⟨e.f0, e.f1, k⟩ := by
  unfold owedL pay1
  rw [List.length_append, List.length_singleton, owedTo]
  simp only []
  rw [owedTo_app L e T k hl _ (Nat.le_refl _), rd122_app L e L.length (Nat.le_refl _), rd_app T k L.length, if_neg (by omega), if_neg (by omega), if_pos (by omega)]
theorem checkS_app {n : Int} {L : List S122} {L2 : List S124} (e : S122) (h : checkS n L L2 = 0) (hl : L.length ≤ 5) (he : entryB n e = true) (hs : sizeS e = 1) : checkS n (L ++ [e]) L2 = 0 := by
  obtain ⟨z0, z1, z2, z3, z4, z5, z6⟩ := z29 h
  have hm : manyS (L ++ [e]) = mn (manyS L * 1) 2001 := by
    unfold manyS
    rw [List.foldl_append]
    simp [hs]
  have hb : manyS (L ++ [e]) ≤ 2000 := by
    rw [hm]
    unfold mn
    split <;> omega
  unfold checkS
  rw [if_neg (by simp; omega), if_neg, if_neg (by omega)]
  rintro (c | c | c)
  · omega
  · rw [List.all_append, z4] at c
    simp [he] at c
  · rw [z5] at c
    cases c
theorem areB_app {L : List S122} {T : List Int} (e : S122) (k : Int) (h : areB L T = true) (h1 : e.f2.f0 ≤ k) (h2 : k ≤ e.f2.f1) : areB (L ++ [e]) (T ++ [k]) = true := by
  unfold areB at h ⊢
  rw [decide_eq_true_eq] at h ⊢
  obtain ⟨hl, hi⟩ := h
  refine ⟨by simp [hl], fun i hm => ?_⟩
  rw [List.length_append, List.length_singleton] at hm
  unfold z45
  rw [rd122_app L e i (by omega), rd_app T k i]
  by_cases c : i < L.length
  · rw [if_pos c, if_pos (by omega)]
    exact hi i c
  · rw [if_neg c, if_neg (by omega), if_pos (by omega)]
    exact ⟨h1, h2⟩
section
variable (n : Int) (l1 : List S91) (l2 : List S94) (T : List Int) (hck : checkS n (l1.map c91) (l2.map c94) = 0) (ho : Small (l1.map c91) T) (hTl : T.length = l1.length)
include hck ho hTl
/-- After one of the payments one fewer settles all. -/
theorem paid_one (h5 : l1.length ≤ 5) (hare : areB (l1.map c91) T = true) (x : S76) (hx : x ∈ z22 (owedL (l1.map c91) T) (groupsL (owedL (l1.map c91) T))) (h40 : x.f2 ≤ 40) :
    playE n ((l1 ++ [(⟨x.f0, x.f1, ⟨x.f2, x.f2⟩⟩ : S91)]).map c91) (l2.map c94) (T ++ [x.f2]) = 0 ∧
    (z22 (owedL ((l1 ++ [(⟨x.f0, x.f1, ⟨x.f2, x.f2⟩⟩ : S91)]).map c91) (T ++ [x.f2])) (groupsL (owedL ((l1 ++ [(⟨x.f0, x.f1, ⟨x.f2, x.f2⟩⟩ : S91)]).map c91) (T ++ [x.f2])))).length + 1 = (z22 (owedL (l1.map c91) T) (groupsL (owedL (l1.map c91) T))).length := by
  obtain ⟨z0, z1, z2, z3, z4, z5⟩ := z33 hck
  obtain ⟨p1, p2, p3⟩ := program_pays n l1 l2 T hck ho
  have hpx := List.all_eq_true.1 p1 x hx
  have hpb := hpx
  simp only [payB, Bool.and_eq_true, decide_eq_true_eq] at hpb
  have hc : checkS n ((l1 ++ [(⟨x.f0, x.f1, ⟨x.f2, x.f2⟩⟩ : S91)]).map c91) (l2.map c94) = 0 := by
    rw [List.map_append]
    refine checkS_app _ hck (by rw [List.length_map]; exact h5) ?_ ?_
    · show (pairB n x.f0 x.f1 && (decide (0 ≤ x.f2) && decide (x.f2 ≤ x.f2) && decide (x.f2 ≤ 40))) = true
      rw [hpb.1, decide_eq_true (show 0 ≤ x.f2 by omega), decide_eq_true (Int.le_refl _), decide_eq_true h40]
      rfl
    · simp [sizeS, c91]
  have ha : areB ((l1 ++ [(⟨x.f0, x.f1, ⟨x.f2, x.f2⟩⟩ : S91)]).map c91) (T ++ [x.f2]) = true := by
    rw [List.map_append]
    exact areB_app _ _ hare (by simp [c91]) (by simp [c91])
  have hsm := areB_small hc ha
  have hv : owedL ((l1 ++ [(⟨x.f0, x.f1, ⟨x.f2, x.f2⟩⟩ : S91)]).map c91) (T ++ [x.f2]) = pay1 (owedL (l1.map c91) T) x := by
    rw [List.map_append]
    exact owedL_app (l1.map c91) _ T x.f2 (by rw [List.length_map]; exact hTl)
  obtain ⟨q1, q2, q3⟩ := program_pays n _ l2 _ hc hsm
  have hQ := q1
  rw [hv] at q2 q3 hQ ⊢
  have h6 : (owedL (l1.map c91) T).length = 6 := z34 _ _ _
  have h6' : (pay1 (owedL (l1.map c91) T) x).length = 6 := by rw [pay1_length]; exact h6
  obtain ⟨j, hj, hje⟩ := List.getElem_of_mem hx
  have hsix : ∀ p, payB n p = true → Six p := fun p h => (payB_six z1 h).1
  have hz : ∀ (ps : List S76) (v : List Int), v.length = 6 → ps.all (payB n) = true → ((∀ i : Int, 0 ≤ i → i < 6 → rd v i + eff ps i = 0) ↔ allZero (paid v ps ps.length) = true) := by
    intro ps v hv6 hp
    have hr := rd_pays ps v hv6 (fun p h => hsix p (List.all_eq_true.1 hp p h))
    unfold paid
    rw [List.take_length]
    constructor
    · intro h
      have g : ∀ i : Int, 0 ≤ i → i < 6 → rd (ps.foldl pay1 v) i = 0 := fun i a b => by rw [hr i a b]; exact h i a b
      unfold allZero
      simp only [Bool.and_eq_true, beq_iff_eq]
      exact ⟨⟨⟨⟨⟨g 0 (by omega) (by omega), g 1 (by omega) (by omega)⟩, g 2 (by omega) (by omega)⟩, g 3 (by omega) (by omega)⟩, g 4 (by omega) (by omega)⟩, g 5 (by omega) (by omega)⟩
    · intro h i a b
      rw [← hr i a b]
      exact allZero_rd h i a b
  have hpay := fun (i : Int) a b => rd_pay1 (owedL (l1.map c91) T) x h6 (hsix x hpx) i a b
  have hother : ((z22 (owedL (l1.map c91) T) (groupsL (owedL (l1.map c91) T))).eraseIdx j).all (payB n) = true := by
    rw [List.all_eq_true]
    exact fun p hp => List.all_eq_true.1 p1 p (List.mem_of_mem_eraseIdx hp)
  have heff : ∀ (ps : List S76) (j : Nat) (hj : j < ps.length) (i : Int), eff ps i = eff1 ps[j] i + eff (ps.eraseIdx j) i := by
    intro ps
    induction ps with
    | nil => intro j hj; simp at hj
    | cons p ps ih =>
      intro j hj i
      cases j with
      | zero => simp [z54]
      | succ j =>
        rw [List.eraseIdx_cons_succ, z54, z54, ih j (by simpa using hj) i]
        simp only [List.getElem_cons_succ]
        omega
  have hup := prove_lower n _ l2 _ hc hsm ((z22 (owedL (l1.map c91) T) (groupsL (owedL (l1.map c91) T))).eraseIdx j) hother (by
    rw [hv]
    refine (hz _ _ h6' hother).1 (fun i a b => ?_)
    have := (hz _ _ h6 p1).2 p2 i a b
    rw [heff _ j hj i, hje] at this
    rw [hpay i a b]
    omega)
  have hlo := prove_lower n l1 l2 T hck ho (x :: z22 (pay1 (owedL (l1.map c91) T) x) (groupsL (pay1 (owedL (l1.map c91) T) x))) (by rw [List.all_cons, hpx, hQ]; rfl) (by
    refine (hz _ _ h6 (by rw [List.all_cons, hpx, hQ]; rfl)).1 (fun i a b => ?_)
    have := (hz _ _ h6' hQ).2 q2 i a b
    rw [hpay i a b] at this
    rw [z54]
    omega)
  rw [hv, List.length_eraseIdx_of_lt hj] at hup
  rw [List.length_cons] at hlo
  refine ⟨?_, ?_⟩
  · unfold playE
    rw [if_neg (fun h => h hc), if_pos ha]
  · omega
end
/-- The law's call. -/
theorem soapPaid_calls (n : Int) (A1 : Option Addr) (c1 : Nat) (l1 : List S91) (A2 : Option Addr) (c2 : Nat) (l2 : List S94) (a : Int) (h0 : 0 ≤ a) (ha : a < 65536) (b : Int) (hb0 : 0 ≤ b) (hb : b < 256) (w : World)
    (hr1 : Kd.C k91 w A1 l1.length l1) (hc1 : l1.length ≤ c1) (hr2 : Kd.C k94 w A2 l2.length l2) (hc2 : l2.length ≤ c2) :
    Calls Try.prog 11 #[.agg #[.int .i64 n, .slice A1 l1.length c1, .slice A2 l2.length c2], .int .u16 a, .int .u8 b] w fun e w' => e = .returned (.bool true) ∧ Below w.heap.size w w' := by
  have hrd := ready_f 100 n l1 l2 (by omega)
  by_cases hq : ((l1.length ≤ 30 ∧ l2.length ≤ 30) ∧ checkS n (l1.map c91) (l2.map c94) = 0) ∧ l1.length ≤ 5
  · obtain ⟨⟨ht, hck⟩, h5⟩ := hq
    rw [decide_eq_true ht, decide_eq_true hck] at hrd
    obtain ⟨z0, z1, z2, z3, z4, z5⟩ := z33 hck
    obtain ⟨T, g1, g2, g3, g4, g5, g6, g7, g8⟩ := which_g n l1 l2 a h0 (by omega) hck 100 (by omega)
    obtain ⟨q1, q2, q3, q4⟩ := pays_groups n l1 l2 T hck g4
    obtain ⟨p1, p2, p3⟩ := program_pays n l1 l2 T hck g4
    obtain ⟨Q, hQ⟩ : ∃ Q : List S76, ((z22 (owedL (l1.map c91) T) (groupsL (owedL (l1.map c91) T))).length ≠ 0 → (rd_T76 (z22 (owedL (l1.map c91) T) (groupsL (owedL (l1.map c91) T))) (b % ((z22 (owedL (l1.map c91) T) (groupsL (owedL (l1.map c91) T))).length : Int))).f2 ≤ 40 →
        soap_Settle.f n ((l1 ++ [(⟨(rd_T76 (z22 (owedL (l1.map c91) T) (groupsL (owedL (l1.map c91) T))) (b % ((z22 (owedL (l1.map c91) T) (groupsL (owedL (l1.map c91) T))).length : Int))).f0, (rd_T76 (z22 (owedL (l1.map c91) T) (groupsL (owedL (l1.map c91) T))) (b % ((z22 (owedL (l1.map c91) T) (groupsL (owedL (l1.map c91) T))).length : Int))).f1, ⟨(rd_T76 (z22 (owedL (l1.map c91) T) (groupsL (owedL (l1.map c91) T))) (b % ((z22 (owedL (l1.map c91) T) (groupsL (owedL (l1.map c91) T))).length : Int))).f2, (rd_T76 (z22 (owedL (l1.map c91) T) (groupsL (owedL (l1.map c91) T))) (b % ((z22 (owedL (l1.map c91) T) (groupsL (owedL (l1.map c91) T))).length : Int))).f2⟩⟩ : S91)]).map c91) (l2.map c94) (T ++ [(rd_T76 (z22 (owedL (l1.map c91) T) (groupsL (owedL (l1.map c91) T))) (b % ((z22 (owedL (l1.map c91) T) (groupsL (owedL (l1.map c91) T))).length : Int))).f2]) = some (Q, 0) ∧ Q.length + 1 = (z22 (owedL (l1.map c91) T) (groupsL (owedL (l1.map c91) T))).length) := by
      by_cases hz : (z22 (owedL (l1.map c91) T) (groupsL (owedL (l1.map c91) T))).length ≠ 0 ∧ (rd_T76 (z22 (owedL (l1.map c91) T) (groupsL (owedL (l1.map c91) T))) (b % ((z22 (owedL (l1.map c91) T) (groupsL (owedL (l1.map c91) T))).length : Int))).f2 ≤ 40
      case neg => exact ⟨[], fun x y => absurd ⟨x, y⟩ hz⟩
      obtain ⟨hz, h40⟩ := hz
      have hm := Int.emod_nonneg b (show ((z22 (owedL (l1.map c91) T) (groupsL (owedL (l1.map c91) T))).length : Int) ≠ 0 by omega)
      have hlt := Int.emod_lt_of_pos b (show (0 : Int) < ((z22 (owedL (l1.map c91) T) (groupsL (owedL (l1.map c91) T))).length : Int) by omega)
      have hmem : rd_T76 (z22 (owedL (l1.map c91) T) (groupsL (owedL (l1.map c91) T))) (b % ((z22 (owedL (l1.map c91) T) (groupsL (owedL (l1.map c91) T))).length : Int)) ∈ z22 (owedL (l1.map c91) T) (groupsL (owedL (l1.map c91) T)) := by
        have := rd76 (z22 (owedL (l1.map c91) T) (groupsL (owedL (l1.map c91) T))) (b % ((z22 (owedL (l1.map c91) T) (groupsL (owedL (l1.map c91) T))).length : Int)).toNat (by omega)
        rw [Int.toNat_of_nonneg hm] at this
        rw [this]
        exact List.getElem_mem _
      obtain ⟨r1, r2⟩ := paid_one n l1 l2 T hck g4 g6 h5 g7 _ hmem h40
      exact ⟨_, fun _ _ => ⟨by rw [soap_Settle.f, r1]; rfl, r2⟩⟩
    refine paid_yes n A1 c1 l1 A2 c2 l2 a b w hr1 hc1 hr2 hc2 h0 ha hb0 hb hrd h5 ht.2 _ (by omega) (Many_f0 100 n l1 l2 hck (by omega)) T g1 _ _ (slate_ok n A1 _ c1 l1 A2 _ c2 l2 w hr1 hc1 hr2 hc2 ht.1 ht.2)
      (list_f T (by omega)) (z22 (owedL (l1.map c91) T) (groupsL (owedL (l1.map c91) T))) (by rw [soap_Settle.f, g3]; rfl) (by omega) (by omega) _ (pays_f 100 _ (by omega) (by omega)) ?_ Q hQ
    rw [ArePays_f 100 n l1 l2 _ z0 z1 (by rw [List.length_map]; omega) (by rw [List.length_map]; omega), c140_76, p1]
  · refine paid_no n A1 c1 l1 A2 c2 l2 a b w hr1 hc1 hr2 hc2 _ hrd (fun h => ?_)
    simp only [Bool.and_eq_true, decide_eq_true_eq] at h
    by_cases c : l1.length ≤ 5
    · exact absurd ⟨h, c⟩ hq
    · omega
end Go.Proofs.Ytncaadckehikpaa.Q
