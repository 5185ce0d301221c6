/- The last part: the row, by the parts before. No condition. -/
import Derived.Lib.SmallJoins
import Derived.Deep.Slices
import Derived.ChangeSame
import Derived.WideLaws
import Derived.Test.YtncaadckehikpaaRows
import Derived.WalkKit
import Derived.ProofKit
import Derived.OpenShut
import Derived.ChangeOld
import Derived.Below
import Derived.SizedLaws
import Derived.Test.YtncaadckehikpaaM30
import Derived.Test.YtncaadckehikpaaM27
import Derived.Test.YtncaadckehikpaaM19
import Derived.Test.YtncaadckehikpaaM29
import Derived.Test.YtncaadckehikpaaM28
import Derived.Test.YtncaadckehikpaaM23
import Derived.Test.YtncaadckehikpaaM31
import Derived.Test.YtncaadckehikpaaM3
namespace Go.Proofs.Ytncaadckehikpaa.Q
open Go.RowKit Go.Proofs.YtncaadckehikpaaW.PrintWords Go.Proofs.YtncaadckehikpaaW.PrintLast Go.Proofs.YtncaadckehikpaaW.PrintMore
set_option linter.unusedVariables false
set_option linter.unusedSimpArgs false
section
variable (n : Int) (A1 : Option Addr) (c1 : Nat) (l1 : List S91) (A2 : Option Addr) (c2 : Nat) (l2 : List S94) (a : Int) (A3 : Option Addr) (c3 : Nat) (ws : List Int) (w : World)
  (hr1 : Kd.C k91 w A1 l1.length l1) (hc1 : l1.length ≤ c1) (hr2 : Kd.C k94 w A2 l2.length l2) (hc2 : l2.length ≤ c2) (hr3 : Kd.C (Kd.int .u16) w A3 ws.length ws) (hc3 : ws.length ≤ c3)
set_option linter.unusedSectionVars false
include hr1 hc1 hr2 hc2 hr3 hc3
set_option maxHeartbeats 4000000 in
set_option maxRecDepth 100000 in
theorem noFewer_no (f45 : pl_ready.f 100 n l1 l2 = some false) :
    Calls Try.prog 9 #[.agg #[.int .i64 n, .slice A1 l1.length c1, .slice A2 l2.length c2], .int .u16 a, .slice A3 ws.length c3] w fun e w' => e = .returned (.bool true) ∧ Below w.heap.size w w' := by
  have hu25 := Try.underlying25
  have HB := mkA (z10 (Below.refl w.heap.size w) (.cells #[.int .i64 n, .slice A1 l1.length c1, .slice A2 l2.length c2] 25))
  have H45 := mkA (pl_ready.calls 100 n A1 c1 l1 A2 c2 l2 false _ (Kd.C_below hr1 HB.out) hc1 (Kd.C_below hr2 HB.out) hc2 f45)
  clear hr1 hr2 hr3 f45
  go_enter Try.func9, Try.ntmps9
  go_wp2_with fail
  refine H45.out.mono ?_
  rintro e w1 ⟨rfl, hb⟩
  replace HB := mkA (z17 HB.out hb)
  clear hb H45
  go_wp2_with fail
  refine (pl_awake.calls true _ rfl).mono ?_
  rintro e w2 ⟨rfl, hb⟩
  replace HB := mkA (z17 HB.out hb)
  clear hb
  go_wp2
  go_ret
  exact ⟨rfl, HB.out⟩
set_option maxHeartbeats 4000000 in
set_option maxRecDepth 100000 in
theorem noFewer_yes (h0 : 0 ≤ a) (ha : a < 65536) (f45 : pl_ready.f 100 n l1 l2 = some true) (M : Int) (hM : 0 < M) (f47 : pr_Many.f 100 n l1 l2 = some M) (T : List Int) (f46 : pr_Nth.f 100 n l1 l2 ((IntKind.i64.wrap a).tmod M) = some T)
    (PL : List S140) (f56 : pl_Paid.f 100 n l1 l2 ws = some PL) (X1 : List S122) (X2 : List S124) (hx : SlateOk w (.agg #[.int .i64 n, .slice A1 l1.length c1, .slice A2 l2.length c2]) n X1 X2)
    (f30 : pl_list.f T = some T) (P : List S76) (f49 : soap_Settle.f n X1 X2 T = some (P, 0)) (Gs : List (List Int)) (f29 : soap_Groups.f n X1 X2 T = some (Gs, 0))
    (PQ : List S76) (f57 : pl_Payments.f 100 PL = some PQ) (is : Bool) (f52 : soap_ProveSettle.f n X1 X2 T PQ 9 = some is) (his : is = true → P.length ≤ PL.length)
    (O : Int) (f34 : pr_Open.f 100 n l1 l2 T = some O) (Bs : List Int) (f58 : pr_Bits.f 100 O = some Bs) (hpg : P.length + Gs.length = Bs.length) (hP6 : P.length ≤ 1000) (hG6 : Gs.length ≤ 1000)
    (fZ : P.length ≠ 0 → soap_ProveSettle.f n X1 X2 T P ((P.length : Int) - 1) = some false) :
    Calls Try.prog 9 #[.agg #[.int .i64 n, .slice A1 l1.length c1, .slice A2 l2.length c2], .int .u16 a, .slice A3 ws.length c3] w fun e w' => e = .returned (.bool true) ∧ Below w.heap.size w w' := by
  have hu25 := Try.underlying25
  have H45 := mkA (fun (W : World) (hb : Below w.heap.size w W) => pl_ready.calls 100 n A1 c1 l1 A2 c2 l2 true W (Kd.C_below hr1 hb) hc1 (Kd.C_below hr2 hb) hc2 f45)
  have H47 := mkA (fun (W : World) (hb : Below w.heap.size w W) => pr_Many.calls 100 n A1 c1 l1 A2 c2 l2 M W (Kd.C_below hr1 hb) hc1 (Kd.C_below hr2 hb) hc2 f47)
  have H46 := mkA (fun (W : World) (hb : Below w.heap.size w W) => pr_Nth.calls 100 n A1 c1 l1 A2 c2 l2 _ T W (Kd.C_below hr1 hb) hc1 (Kd.C_below hr2 hb) hc2 f46)
  have H56 := mkA (fun (W : World) (hb : Below w.heap.size w W) => pl_Paid.calls 100 n A1 c1 l1 A2 c2 l2 A3 c3 ws PL W (Kd.C_below hr1 hb) hc1 (Kd.C_below hr2 hb) hc2 (Kd.C_below hr3 hb) hc3 f56)
  have H34 := mkA (fun (W : World) (hb : Below w.heap.size w W) (PT : Option Addr) (dT : Nat) (hT : Kd.C (Kd.int .i64) W PT T.length T) (h : T.length ≤ dT) => pr_Open.calls 100 n A1 c1 l1 A2 c2 l2 PT dT T O W (Kd.C_below hr1 hb) hc1 (Kd.C_below hr2 hb) hc2 hT h f34)
  have HX := mkA hx
  have F30 := mkA f30
  have F49 := mkA f49
  have F29 := mkA f29
  have F57 := mkA f57
  have F52 := mkA f52
  have F58 := mkA f58
  have HPG := mkA hpg
  have HIS := mkA his
  have FZ := mkA fZ
  clear hx hr1 hr2 hr3 f45 f47 f46 f56 f34 f30 f49 f29 f57 f52 f58 hpg his fZ
  have HB := mkA (z10 (Below.refl w.heap.size w) (.cells #[.int .i64 n, .slice A1 l1.length c1, .slice A2 l2.length c2] 25))
  have HK := mkA (z21 w (.cells #[.int .i64 n, .slice A1 l1.length c1, .slice A2 l2.length c2] 25))
  go_enter Try.func9, Try.ntmps9
  go_wp2_with fail
  refine (H45.out _ HB.out).mono ?_
  rintro e w1 ⟨rfl, hb⟩
  replace HB := mkA (z17 HB.out hb)
  replace HK := mkA (blk_below HK.out hb)
  clear hb
  obtain ⟨k0, k1, k2⟩ := box3 HK.out
  go_wp2_with fail
  have HBL := mkA (show Below w1.heap.size w1 w1.drew from z12 (Below.refl _ _))
  have HKS := mkA (fun (W' : World) (hb : Below w1.heap.size w1 W') => box3 (blk_below HK.out hb))
  have hM1 : M ≠ 0 := by omega
  have hM2 : (M == 0) = false := by rw [beq_eq_false_iff_ne]; omega
  go_region_held3 (fun w' => w'.cell? ⟨w.heap.size, 0, none⟩ = some (.int .i64 n) ∧ w'.cell? ⟨w.heap.size, 1, none⟩ = some (.slice A1 l1.length c1) ∧ w'.cell? ⟨w.heap.size, 2, none⟩ = some (.slice A2 l2.length c2)) (exact HKS.out _ HBL.out) (first | ((with_reducible refine (H47.out _ (z17 HB.out HBL.out)).mono ?_); rintro e w2 ⟨rfl, hb⟩; replace HBL := mkA (z17 HBL.out hb); clear hb) | ((with_reducible refine (H46.out _ (z17 HB.out HBL.out)).mono ?_); rintro e w3 ⟨vT, rfl, hl, hb⟩; replace HBL := mkA (z17 HBL.out hb); have LT := mkA hl; clear hl hb) | ((with_reducible refine (H56.out _ (z17 HB.out HBL.out)).mono ?_); rintro e w4 ⟨vP, rfl, hl, hb⟩; replace HBL := mkA (z17 HBL.out hb); replace LT := mkA (Kd.R_below LT.out hb); have LP := mkA hl; clear hl hb))
  replace HB := mkA (z17 HB.out HBL.out)
  replace HK := mkA (blk_below HK.out HBL.out)
  clear HKS HBL k0 k1 k2 H45 H47 H46 H56
  obtain ⟨PT, dT, rfl, qT, RT⟩ := Kd.R_reads LT.out
  obtain ⟨PP, dP, rfl, qP, RP⟩ := Kd.R_reads LP.out
  clear LT LP
  have LT := mkA RT
  clear RT
  have LP := mkA RP
  clear RP
  obtain ⟨k0, k1, k2⟩ := box3 HK.out
  go_wp2_with fail
  refine (HX.out _ HB.out).mono ?_
  rintro e w5 ⟨B1, d1, B2, d2, rfl, h1, h2, h3, h4, hb⟩
  replace HB := mkA (z17 HB.out hb)
  replace HK := mkA (blk_below HK.out hb)
  replace LT := mkA (Kd.C_below LT.out hb)
  replace LP := mkA (Kd.C_below LP.out hb)
  clear hb
  have P1 := mkA h1
  clear h1
  have P2 := mkA h3
  clear h3
  clear k0 k1 k2
  go_wp2_with fail
  refine (pl_list.calls PT dT T T _ LT.out qT F30.out).mono ?_
  rintro e w6 ⟨vl, rfl, hl, hb⟩
  replace HB := mkA (z17 HB.out hb)
  replace HK := mkA (blk_below HK.out hb)
  replace LT := mkA (Kd.C_below LT.out hb)
  replace LP := mkA (Kd.C_below LP.out hb)
  replace P1 := mkA (Kd.C_below P1.out hb)
  replace P2 := mkA (Kd.C_below P2.out hb)
  clear hb
  have LL := mkA hl
  clear hl
  obtain ⟨PL_, dL, rfl, qL, RL⟩ := Kd.R_reads LL.out
  clear LL
  have LL := mkA RL
  clear RL
  go_wp2_with fail
  refine (soap_Settle.calls n B1 d1 X1 B2 d2 X2 PL_ dL T _ _ _ P1.out h2 P2.out h4 LL.out qL F49.out).mono ?_
  rintro e w7 ⟨vS, rfl, hl, hb⟩
  replace HB := mkA (z17 HB.out hb)
  replace HK := mkA (blk_below HK.out hb)
  replace LT := mkA (Kd.C_below LT.out hb)
  replace LP := mkA (Kd.C_below LP.out hb)
  replace P1 := mkA (Kd.C_below P1.out hb)
  replace P2 := mkA (Kd.C_below P2.out hb)
  replace LL := mkA (Kd.C_below LL.out hb)
  clear hb
  have LS := mkA hl
  clear hl
  obtain ⟨PS, dS, rfl, qS, RS⟩ := Kd.R_reads LS.out
  clear LS
  have LS := mkA RS
  clear RS
  clear P1 P2 h2 h4 LL qL
  obtain ⟨k0, k1, k2⟩ := box3 HK.out
  go_wp2_with fail
  refine (HX.out _ HB.out).mono ?_
  rintro e w8 ⟨B1, d1, B2, d2, rfl, h1, h2, h3, h4, hb⟩
  replace HB := mkA (z17 HB.out hb)
  replace HK := mkA (blk_below HK.out hb)
  replace LT := mkA (Kd.C_below LT.out hb)
  replace LP := mkA (Kd.C_below LP.out hb)
  replace LS := mkA (Kd.C_below LS.out hb)
  clear hb
  have P1 := mkA h1
  clear h1
  have P2 := mkA h3
  clear h3
  clear k0 k1 k2
  go_wp2_with fail
  refine (pl_list.calls PT dT T T _ LT.out qT F30.out).mono ?_
  rintro e w9 ⟨vl, rfl, hl, hb⟩
  replace HB := mkA (z17 HB.out hb)
  replace HK := mkA (blk_below HK.out hb)
  replace LT := mkA (Kd.C_below LT.out hb)
  replace LP := mkA (Kd.C_below LP.out hb)
  replace LS := mkA (Kd.C_below LS.out hb)
  replace P1 := mkA (Kd.C_below P1.out hb)
  replace P2 := mkA (Kd.C_below P2.out hb)
  clear hb
  have LL := mkA hl
  clear hl
  obtain ⟨PL_, dL, rfl, qL, RL⟩ := Kd.R_reads LL.out
  clear LL
  have LL := mkA RL
  clear RL
  go_wp2_with fail
  refine (soap_Groups.calls n B1 d1 X1 B2 d2 X2 PL_ dL T _ _ _ P1.out h2 P2.out h4 LL.out qL F29.out).mono ?_
  rintro e w10 ⟨vG, rfl, hl, hb⟩
  replace HB := mkA (z17 HB.out hb)
  replace HK := mkA (blk_below HK.out hb)
  replace LT := mkA (Kd.C_below LT.out hb)
  replace LP := mkA (Kd.C_below LP.out hb)
  replace LS := mkA (Kd.C_below LS.out hb)
  replace P1 := mkA (Kd.C_below P1.out hb)
  replace P2 := mkA (Kd.C_below P2.out hb)
  replace LL := mkA (Kd.C_below LL.out hb)
  clear hb
  have LG := mkA hl
  clear hl
  obtain ⟨PG, dG, rfl, qG, RG⟩ := Kd.S_reads LG.out
  clear LG RG
  clear P1 P2 h2 h4 LL qL
  obtain ⟨k0, k1, k2⟩ := box3 HK.out
  go_wp2_with fail
  refine (HX.out _ HB.out).mono ?_
  rintro e w11 ⟨B1, d1, B2, d2, rfl, h1, h2, h3, h4, hb⟩
  replace HB := mkA (z17 HB.out hb)
  replace HK := mkA (blk_below HK.out hb)
  replace LT := mkA (Kd.C_below LT.out hb)
  replace LP := mkA (Kd.C_below LP.out hb)
  replace LS := mkA (Kd.C_below LS.out hb)
  clear hb
  have P1 := mkA h1
  clear h1
  have P2 := mkA h3
  clear h3
  clear k0 k1 k2
  go_wp2_with fail
  refine (pl_list.calls PT dT T T _ LT.out qT F30.out).mono ?_
  rintro e w12 ⟨vl, rfl, hl, hb⟩
  replace HB := mkA (z17 HB.out hb)
  replace HK := mkA (blk_below HK.out hb)
  replace LT := mkA (Kd.C_below LT.out hb)
  replace LP := mkA (Kd.C_below LP.out hb)
  replace LS := mkA (Kd.C_below LS.out hb)
  replace P1 := mkA (Kd.C_below P1.out hb)
  replace P2 := mkA (Kd.C_below P2.out hb)
  clear hb
  have LL := mkA hl
  clear hl
  obtain ⟨PL_, dL, rfl, qL, RL⟩ := Kd.R_reads LL.out
  clear LL
  have LL := mkA RL
  clear RL
  go_wp2_with fail
  refine (pl_Payments.calls 100 PP dP PL PQ _ LP.out qP F57.out).mono ?_
  rintro e w13 ⟨vq, rfl, hl, hb⟩
  replace HB := mkA (z17 HB.out hb)
  replace HK := mkA (blk_below HK.out hb)
  replace LT := mkA (Kd.C_below LT.out hb)
  replace LP := mkA (Kd.C_below LP.out hb)
  replace LS := mkA (Kd.C_below LS.out hb)
  replace P1 := mkA (Kd.C_below P1.out hb)
  replace P2 := mkA (Kd.C_below P2.out hb)
  replace LL := mkA (Kd.C_below LL.out hb)
  clear hb
  have LQ := mkA hl
  clear hl
  obtain ⟨PY, dY, rfl, qY, RY⟩ := Kd.R_reads LQ.out
  clear LQ
  have LQ := mkA RY
  clear RY
  go_wp2_with fail
  refine (soap_ProveSettle.calls n B1 d1 X1 B2 d2 X2 PL_ dL T PY dY PQ 9 is _ P1.out h2 P2.out h4 LL.out qL LQ.out qY F52.out).mono ?_
  rintro e w14 ⟨rfl, hb⟩
  replace HB := mkA (z17 HB.out hb)
  replace HK := mkA (blk_below HK.out hb)
  replace LT := mkA (Kd.C_below LT.out hb)
  replace LP := mkA (Kd.C_below LP.out hb)
  replace LS := mkA (Kd.C_below LS.out hb)
  replace P1 := mkA (Kd.C_below P1.out hb)
  replace P2 := mkA (Kd.C_below P2.out hb)
  replace LL := mkA (Kd.C_below LL.out hb)
  clear hb
  clear LQ qY
  clear P1 P2 h2 h4 LL qL
  clear LP qP
  cases is with
  | false =>
    obtain ⟨k0, k1, k2⟩ := box3 HK.out
    go_wp2_with fail
    refine (H34.out _ HB.out PT dT LT.out qT).mono ?_
    rintro e w15 ⟨rfl, hb⟩
    replace HB := mkA (z17 HB.out hb)
    replace HK := mkA (blk_below HK.out hb)
    replace LT := mkA (Kd.C_below LT.out hb)
    replace LS := mkA (Kd.C_below LS.out hb)
    clear hb
    clear k0 k1 k2
    go_wp2_with fail
    refine (pr_Bits.calls 100 O Bs _ F58.out).mono ?_
    rintro e w16 ⟨vB, rfl, hl, hb⟩
    replace HB := mkA (z17 HB.out hb)
    replace HK := mkA (blk_below HK.out hb)
    replace LT := mkA (Kd.C_below LT.out hb)
    replace LS := mkA (Kd.C_below LS.out hb)
    clear hb
    have LB := mkA hl
    clear hl
    obtain ⟨PB, dB, rfl, qB, RB⟩ := Kd.R_reads LB.out
    clear LB RB
    have z3 : ((P.length : Int) + Gs.length == Bs.length) = true := by rw [beq_iff_eq]; have := HPG.out; omega
    clear HPG
    by_cases hz : P.length = 0
    · have z4 : ((P.length : Int) == 0) = true := by rw [beq_iff_eq]; omega
      clear hz
      go_wp2_with fail
      refine (pl_awake.calls true _ rfl).mono ?_
      rintro e w17 ⟨rfl, hb⟩
      replace HB := mkA (z17 HB.out hb)
      replace HK := mkA (blk_below HK.out hb)
      replace LT := mkA (Kd.C_below LT.out hb)
      replace LS := mkA (Kd.C_below LS.out hb)
      clear hb
      go_wp2
      go_ret
      exact ⟨rfl, HB.out⟩
    · have z4 : ((P.length : Int) == 0) = false := by rw [beq_eq_false_iff_ne]; omega
      have z5 : (0 : Int) < P.length := by omega
      have FZ1 := mkA (FZ.out hz)
      clear hz FZ
      obtain ⟨k0, k1, k2⟩ := box3 HK.out
      go_wp2_with fail
      refine (HX.out _ HB.out).mono ?_
      rintro e w17 ⟨B1, d1, B2, d2, rfl, h1, h2, h3, h4, hb⟩
      replace HB := mkA (z17 HB.out hb)
      replace HK := mkA (blk_below HK.out hb)
      replace LT := mkA (Kd.C_below LT.out hb)
      replace LS := mkA (Kd.C_below LS.out hb)
      clear hb
      have P1 := mkA h1
      clear h1
      have P2 := mkA h3
      clear h3
      clear k0 k1 k2
      go_wp2_with fail
      refine (pl_list.calls PT dT T T _ LT.out qT F30.out).mono ?_
      rintro e w18 ⟨vl, rfl, hl, hb⟩
      replace HB := mkA (z17 HB.out hb)
      replace HK := mkA (blk_below HK.out hb)
      replace LT := mkA (Kd.C_below LT.out hb)
      replace LS := mkA (Kd.C_below LS.out hb)
      replace P1 := mkA (Kd.C_below P1.out hb)
      replace P2 := mkA (Kd.C_below P2.out hb)
      clear hb
      have LL := mkA hl
      clear hl
      obtain ⟨PL_, dL, rfl, qL, RL⟩ := Kd.R_reads LL.out
      clear LL
      have LL := mkA RL
      clear RL
      go_wp2_with fail
      refine (soap_ProveSettle.calls n B1 d1 X1 B2 d2 X2 PL_ dL T PS dS P _ false _ P1.out h2 P2.out h4 LL.out qL LS.out qS FZ1.out).mono ?_
      rintro e w19 ⟨rfl, hb⟩
      replace HB := mkA (z17 HB.out hb)
      replace HK := mkA (blk_below HK.out hb)
      replace LT := mkA (Kd.C_below LT.out hb)
      replace LS := mkA (Kd.C_below LS.out hb)
      replace P1 := mkA (Kd.C_below P1.out hb)
      replace P2 := mkA (Kd.C_below P2.out hb)
      replace LL := mkA (Kd.C_below LL.out hb)
      clear hb
      clear P1 P2 h2 h4 LL qL
      go_wp2_with fail
      refine (pl_awake.calls true _ rfl).mono ?_
      rintro e w20 ⟨rfl, hb⟩
      replace HB := mkA (z17 HB.out hb)
      replace HK := mkA (blk_below HK.out hb)
      replace LT := mkA (Kd.C_below LT.out hb)
      replace LS := mkA (Kd.C_below LS.out hb)
      clear hb
      go_wp2
      go_ret
      exact ⟨rfl, HB.out⟩
  | true =>
    have z1 : decide ((P.length : Int) ≤ PL.length) = true := decide_eq_true (by have := HIS.out rfl; omega)
    have z2 : decide (P.length ≤ PL.length) = true := decide_eq_true (HIS.out rfl)
    obtain ⟨k0, k1, k2⟩ := box3 HK.out
    go_wp2_with fail
    refine (H34.out _ HB.out PT dT LT.out qT).mono ?_
    rintro e w15 ⟨rfl, hb⟩
    replace HB := mkA (z17 HB.out hb)
    replace HK := mkA (blk_below HK.out hb)
    replace LT := mkA (Kd.C_below LT.out hb)
    replace LS := mkA (Kd.C_below LS.out hb)
    clear hb
    clear k0 k1 k2
    go_wp2_with fail
    refine (pr_Bits.calls 100 O Bs _ F58.out).mono ?_
    rintro e w16 ⟨vB, rfl, hl, hb⟩
    replace HB := mkA (z17 HB.out hb)
    replace HK := mkA (blk_below HK.out hb)
    replace LT := mkA (Kd.C_below LT.out hb)
    replace LS := mkA (Kd.C_below LS.out hb)
    clear hb
    have LB := mkA hl
    clear hl
    obtain ⟨PB, dB, rfl, qB, RB⟩ := Kd.R_reads LB.out
    clear LB RB
    have z3 : ((P.length : Int) + Gs.length == Bs.length) = true := by rw [beq_iff_eq]; have := HPG.out; omega
    clear HPG
    by_cases hz : P.length = 0
    · have z4 : ((P.length : Int) == 0) = true := by rw [beq_iff_eq]; omega
      clear hz
      go_wp2_with fail
      refine (pl_awake.calls true _ rfl).mono ?_
      rintro e w17 ⟨rfl, hb⟩
      replace HB := mkA (z17 HB.out hb)
      replace HK := mkA (blk_below HK.out hb)
      replace LT := mkA (Kd.C_below LT.out hb)
      replace LS := mkA (Kd.C_below LS.out hb)
      clear hb
      go_wp2
      go_ret
      exact ⟨rfl, HB.out⟩
    · have z4 : ((P.length : Int) == 0) = false := by rw [beq_eq_false_iff_ne]; omega
      have z5 : (0 : Int) < P.length := by omega
      have FZ1 := mkA (FZ.out hz)
      clear hz FZ
      obtain ⟨k0, k1, k2⟩ := box3 HK.out
      go_wp2_with fail
      refine (HX.out _ HB.out).mono ?_
      rintro e w17 ⟨B1, d1, B2, d2, rfl, h1, h2, h3, h4, hb⟩
      replace HB := mkA (z17 HB.out hb)
      replace HK := mkA (blk_below HK.out hb)
      replace LT := mkA (Kd.C_below LT.out hb)
      replace LS := mkA (Kd.C_below LS.out hb)
      clear hb
      have P1 := mkA h1
      clear h1
      have P2 := mkA h3
      clear h3
      clear k0 k1 k2
      go_wp2_with fail
      refine (pl_list.calls PT dT T T _ LT.out qT F30.out).mono ?_
      rintro e w18 ⟨vl, rfl, hl, hb⟩
      replace HB := mkA (z17 HB.out hb)
      replace HK := mkA (blk_below HK.out hb)
      replace LT := mkA (Kd.C_below LT.out hb)
      replace LS := mkA (Kd.C_below LS.out hb)
      replace P1 := mkA (Kd.C_below P1.out hb)
      replace P2 := mkA (Kd.C_below P2.out hb)
      clear hb
      have LL := mkA hl
      clear hl
      obtain ⟨PL_, dL, rfl, qL, RL⟩ := Kd.R_reads LL.out
      clear LL
      have LL := mkA RL
      clear RL
      go_wp2_with fail
      refine (soap_ProveSettle.calls n B1 d1 X1 B2 d2 X2 PL_ dL T PS dS P _ false _ P1.out h2 P2.out h4 LL.out qL LS.out qS FZ1.out).mono ?_
      rintro e w19 ⟨rfl, hb⟩
      replace HB := mkA (z17 HB.out hb)
      replace HK := mkA (blk_below HK.out hb)
      replace LT := mkA (Kd.C_below LT.out hb)
      replace LS := mkA (Kd.C_below LS.out hb)
      replace P1 := mkA (Kd.C_below P1.out hb)
      replace P2 := mkA (Kd.C_below P2.out hb)
      replace LL := mkA (Kd.C_below LL.out hb)
      clear hb
      clear P1 P2 h2 h4 LL qL
      go_wp2_with fail
      refine (pl_awake.calls true _ rfl).mono ?_
      rintro e w20 ⟨rfl, hb⟩
      replace HB := mkA (z17 HB.out hb)
      replace HK := mkA (blk_below HK.out hb)
      replace LT := mkA (Kd.C_below LT.out hb)
      replace LS := mkA (Kd.C_below LS.out hb)
      clear hb
      go_wp2
      go_ret
      exact ⟨rfl, HB.out⟩
end
end Go.Proofs.Ytncaadckehikpaa.Q
namespace Go.Proofs.Ytncaadckehikpaa.Q
open Go.RowKit Go.Proofs.YtncaadckehikpaaW.PrintWords Go.Proofs.YtncaadckehikpaaW.PrintLast Go.Proofs.YtncaadckehikpaaW.PrintMore
set_option linter.unusedVariables false
set_option linter.unusedSimpArgs false
theorem word_f (ws : List Int) (j : Int) (h0 : 0 ≤ j) : ∃ v, pl_word.f ws j = some v := by
  unfold pl_word.f
  by_cases h : (ws.length : Int) = 0
  · exact ⟨0, by rw [if_pos h]⟩
  · rw [if_neg h, Int.tmod_eq_emod_of_nonneg h0, if_pos (Int.emod_nonneg _ h), if_pos (Int.emod_lt_of_pos _ (by omega))]
    exact ⟨_, rfl⟩
theorem Paid_l0 (ws : List Int) (n : Int) (h0 : 0 ≤ n) (h6 : n ≤ 6) (l1 : List S91) (l2 : List S94) : ∀ (d k i : Nat) (acc : List S140), i + d = 6 → d < k → acc.length ≤ i → ∃ r, pl_Paid.l0 k ws acc i n l1 l2 = some r ∧ r.length ≤ 6
  | d, k + 1, i, acc, hi, hk, ha => by
    obtain ⟨v, hv⟩ := word_f ws 0 (Int.le_refl _)
    rw [pl_Paid.l0, hv, Option.bind_some]
    have hm : Int.tmod v 6 < 6 := by have := Int.tmod_lt_of_pos v (show (0 : Int) < 6 by omega); omega
    by_cases h1 : (i : Int) < Int.tmod v 6
    · rw [if_pos h1]
      by_cases h2 : n > 1
      · obtain ⟨x, hx⟩ := word_f ws (wrap64 ((i : Int) + 1)) (by unfold wrap64; omega)
        rw [if_pos h2, hx, Option.bind_some, if_neg (by omega), if_neg (by unfold wrap64; omega), if_pos (by omega), w1 i (by omega)]
        match d, hi, hk with
        | 0, hi, hk => omega
        | d + 1, hi, hk => exact Paid_l0 ws n h0 h6 l1 l2 d k (i + 1) _ (by omega) (by omega) (by simp; omega)
      · rw [if_neg h2]
        exact ⟨acc, rfl, by omega⟩
    · rw [if_neg h1]
      exact ⟨acc, rfl, by omega⟩
theorem Paid_f (ws : List Int) (n : Int) (h0 : 0 ≤ n) (h6 : n ≤ 6) (l1 : List S91) (l2 : List S94) : ∃ r, pl_Paid.f 100 n l1 l2 ws = some r ∧ r.length ≤ 6 :=
  Paid_l0 ws n h0 h6 l1 l2 6 100 0 [] rfl (by omega) (Nat.le_refl _)
/-- The law's call. -/
theorem soapNoFewer_calls (n : Int) (A1 : Option Addr) (c1 : Nat) (l1 : List S91) (A2 : Option Addr) (c2 : Nat) (l2 : List S94) (a : Int) (h0 : 0 ≤ a) (ha : a < 65536) (A3 : Option Addr) (c3 : Nat) (ws : List Int) (w : World)
    (hr1 : Kd.C k91 w A1 l1.length l1) (hc1 : l1.length ≤ c1) (hr2 : Kd.C k94 w A2 l2.length l2) (hc2 : l2.length ≤ c2) (hr3 : Kd.C (Kd.int .u16) w A3 ws.length ws) (hc3 : ws.length ≤ c3) :
    Calls Try.prog 9 #[.agg #[.int .i64 n, .slice A1 l1.length c1, .slice A2 l2.length c2], .int .u16 a, .slice A3 ws.length c3] w fun e w' => e = .returned (.bool true) ∧ Below w.heap.size w w' := by
  have hrd := ready_f 100 n l1 l2 (by omega)
  by_cases hq : (l1.length ≤ 30 ∧ l2.length ≤ 30) ∧ checkS n (l1.map c91) (l2.map c94) = 0
  · obtain ⟨ht, hck⟩ := hq
    rw [decide_eq_true ht, decide_eq_true hck] at hrd
    obtain ⟨z0, z1, z2, z3, z4, z5⟩ := z32 hck
    obtain ⟨T, g1, g2, g3, g4, g5, g6, g7, g8⟩ := which_g n l1 l2 a h0 (by omega) hck 100 (by omega)
    obtain ⟨PL, p1, p2⟩ := Paid_f ws n z0 z1 l1 l2
    obtain ⟨q1, q2, q3, q4⟩ := pays_groups n l1 l2 T hck g4
    have hb64 : openN (owedL (l1.map c91) T) < 64 := z50 _ 6
    refine noFewer_yes n A1 c1 l1 A2 c2 l2 a A3 c3 ws w hr1 hc1 hr2 hc2 hr3 hc3 h0 ha hrd _ (by omega) (Many_f0 100 n l1 l2 hck (by omega)) T g1 PL p1 _ _ (slate_ok n A1 _ c1 l1 A2 _ c2 l2 w hr1 hc1 hr2 hc2 ht.1 ht.2)
      (list_f T (by omega)) (z28 (owedL (l1.map c91) T) (groupsL (owedL (l1.map c91) T))) (by rw [soap_Settle.f, g3]; rfl) (groupsL (owedL (l1.map c91) T)) (by rw [soap_Groups.f, g3]; rfl)
      _ (Pays_f 100 PL (by omega) (by omega)) _ (by rw [soap_ProveSettle.f, if_pos (by rw [List.length_map]; omega)]) (fun his => ?_) _ (Open_f n l1 l2 T hck g4 100 (by omega)) _ (Bits_f 100 _ hb64 (by omega)) q4 (by omega) (by omega) (fun hz => ?_)
    · unfold proveS at his
      simp only [Bool.and_eq_true] at his
      have := prove_lower n l1 l2 T hck g4 _ his.1.2 his.2
      rw [List.length_map] at this
      omega
    · rw [soap_ProveSettle.f, if_pos (by omega)]
      unfold proveS
      rw [decide_eq_false (show ¬ ((z28 (owedL (l1.map c91) T) (groupsL (owedL (l1.map c91) T))).length : Int) ≤ ((z28 (owedL (l1.map c91) T) (groupsL (owedL (l1.map c91) T))).length : Int) - 1 by omega)]
      simp
  · refine noFewer_no n A1 c1 l1 A2 c2 l2 a A3 c3 ws w hr1 hc1 hr2 hc2 hr3 hc3 (hrd.trans ?_)
    by_cases ht : l1.length ≤ 30 ∧ l2.length ≤ 30
    · rw [decide_eq_true ht, decide_eq_false (fun h => hq ⟨ht, h⟩)]
      rfl
    · rw [decide_eq_false ht]
      rfl
end Go.Proofs.Ytncaadckehikpaa.Q
namespace Go.Proofs.Ytncaadckehikpaa.Q
open Go.RowKit Go.Proofs.YtncaadckehikpaaW.PrintWords Go.Proofs.YtncaadckehikpaaW.PrintLast Go.Proofs.YtncaadckehikpaaW.PrintMore
open Go.ChangeShapes Go.WideShapes Go.Deep Go.Joins
set_option linter.unusedVariables false
set_option linter.unusedSimpArgs false
theorem list2 {α : Type} {l : List α} (h : l.length = 2) : ∃ a b, l = [a, b] := by
  match l, h with
  | [a, b], _ => exact ⟨a, b, rfl⟩
theorem list3 {α : Type} {l : List α} (h : l.length = 3) : ∃ a b c, l = [a, b, c] := by
  match l, h with
  | [a, b, c], _ => exact ⟨a, b, c, rfl⟩
theorem list4 {α : Type} {l : List α} (h : l.length = 4) : ∃ a b c d, l = [a, b, c, d] := by
  match l, h with
  | [a, b, c, d], _ => exact ⟨a, b, c, d, rfl⟩
section
variable {H : Type} {enc : TypeId × Value → H} {w : World} {base : Nat} {spare : Nat → Bool} {held : Bool}
theorem cells_3 : Try.prog.cellsOf 3 = 1 := by kernel_rfl
theorem cells_46 : Try.prog.cellsOf 46 = 2 := by kernel_rfl
theorem cells_91 : Try.prog.cellsOf 91 = 4 := by kernel_rfl
theorem cells_94 : Try.prog.cellsOf 94 = 3 := by kernel_rfl
theorem cells_25 : Try.prog.cellsOf 25 = 3 := by kernel_rfl
theorem one25 : oneCellFields Try.prog #[{ name := "Women", type := 3, offset := 0, embedded := false, tag := "", pkgPath := "", byteOffset := 0 }, { name := "Entries", type := 22, offset := 1, embedded := false, tag := "", pkgPath := "", byteOffset := 8 }, { name := "Sayings", type := 23, offset := 2, embedded := false, tag := "", pkgPath := "", byteOffset := 32 }] = true := by kernel_rfl
theorem u16_bd {a : Int} (h : (Lit.int .u16 a).wf = true) : 0 ≤ a ∧ a < 65536 := by
  have h1 : IntKind.u16.min = 0 := by decide
  have h2 : IntKind.u16.max = 65535 := by decide
  simp only [Lit.wf, Bool.and_eq_true, decide_eq_true_eq, h1, h2] at h
  omega
/-- A range. -/
theorem open_46 {fuel : Nat} {cs : List Value} {x : DataW H × List MemPlace} (h : DataW.trod enc Try.prog w base spare held fuel 46 cs = some x) :
    ∃ a b : Int, cs = [.int .i64 a, .int .i64 b] := by
  obtain ⟨xs, n, _, _, hl, hlen, hf⟩ := DataW.trod_struct Try.underlying46 h
  rw [cells_46] at hl
  obtain ⟨c0, c1, rfl⟩ := list2 hl
  obtain ⟨y0, y1, rfl⟩ := list2 hlen
  have h0 := hf 0 _ rfl
  change DataW.trod enc Try.prog w base spare held n 3 (([c0, c1].drop 0).take (Try.prog.cellsOf 3)) = some y0 at h0
  rw [cells_3] at h0
  have h1 := hf 1 _ rfl
  change DataW.trod enc Try.prog w base spare held n 3 (([c0, c1].drop 1).take (Try.prog.cellsOf 3)) = some y1 at h1
  rw [cells_3] at h1
  obtain ⟨a, ha, _, _⟩ := DataW.trod_int Try.underlying3 h0
  obtain ⟨b, hb, _, _⟩ := DataW.trod_int Try.underlying3 h1
  have ha' : [c0] = _ := ha
  have hb' : [c1] = _ := hb
  simp only [List.cons.injEq, and_true] at ha' hb'
  exact ⟨a, b, by rw [ha', hb']⟩
/-- An entry. -/
theorem open_91 {fuel : Nat} {cs : List Value} {x : DataW H × List MemPlace} (h : DataW.trod enc Try.prog w base spare held fuel 91 cs = some x) :
    ∃ e : S91, cs = [.int .i64 e.f0, .int .i64 e.f1, .int .i64 e.f2.f0, .int .i64 e.f2.f1] := by
  obtain ⟨xs, n, _, _, hl, hlen, hf⟩ := DataW.trod_struct Try.underlying91 h
  rw [cells_91] at hl
  obtain ⟨c0, c1, c2, c3, rfl⟩ := list4 hl
  obtain ⟨y0, y1, y2, rfl⟩ := list3 hlen
  have h0 := hf 0 _ rfl
  change DataW.trod enc Try.prog w base spare held n 3 (([c0, c1, c2, c3].drop 0).take (Try.prog.cellsOf 3)) = some y0 at h0
  rw [cells_3] at h0
  have h1 := hf 1 _ rfl
  change DataW.trod enc Try.prog w base spare held n 3 (([c0, c1, c2, c3].drop 1).take (Try.prog.cellsOf 3)) = some y1 at h1
  rw [cells_3] at h1
  have h2 := hf 2 _ rfl
  change DataW.trod enc Try.prog w base spare held n 46 (([c0, c1, c2, c3].drop 2).take (Try.prog.cellsOf 46)) = some y2 at h2
  rw [cells_46] at h2
  obtain ⟨a, ha, _, _⟩ := DataW.trod_int Try.underlying3 h0
  obtain ⟨b, hb, _, _⟩ := DataW.trod_int Try.underlying3 h1
  obtain ⟨c, d, hc⟩ := open_46 h2
  have ha' : [c0] = _ := ha
  have hb' : [c1] = _ := hb
  have hc' : [c2, c3] = _ := hc
  simp only [List.cons.injEq, and_true] at ha' hb' hc'
  exact ⟨⟨a, b, ⟨c, d⟩⟩, by rw [ha', hb', hc'.1, hc'.2]⟩
/-- A saying. -/
theorem open_94 {fuel : Nat} {cs : List Value} {x : DataW H × List MemPlace} (h : DataW.trod enc Try.prog w base spare held fuel 94 cs = some x) :
    ∃ e : S94, cs = [.int .i64 e.f0, .int .i64 e.f1.f0, .int .i64 e.f1.f1] := by
  obtain ⟨xs, n, _, _, hl, hlen, hf⟩ := DataW.trod_struct Try.underlying94 h
  rw [cells_94] at hl
  obtain ⟨c0, c1, c2, rfl⟩ := list3 hl
  obtain ⟨y0, y1, rfl⟩ := list2 hlen
  have h0 := hf 0 _ rfl
  change DataW.trod enc Try.prog w base spare held n 3 (([c0, c1, c2].drop 0).take (Try.prog.cellsOf 3)) = some y0 at h0
  rw [cells_3] at h0
  have h1 := hf 1 _ rfl
  change DataW.trod enc Try.prog w base spare held n 46 (([c0, c1, c2].drop 1).take (Try.prog.cellsOf 46)) = some y1 at h1
  rw [cells_46] at h1
  obtain ⟨a, ha, _, _⟩ := DataW.trod_int Try.underlying3 h0
  obtain ⟨c, d, hc⟩ := open_46 h1
  have ha' : [c0] = _ := ha
  have hc' : [c1, c2] = _ := hc
  simp only [List.cons.injEq, and_true] at ha' hc'
  exact ⟨⟨a, ⟨c, d⟩⟩, by rw [ha', hc'.1, hc'.2]⟩
/-- A row whose elements open. -/
theorem open_row {α : Type} (d : Kd α) {t e : TypeId} (ht : Try.prog.underlying t = some (.slice e)) (hC : Try.prog.cellsOf e = d.sz)
    (ho : ∀ (fuel : Nat) (cs : List Value) (x : DataW H × List MemPlace), DataW.trod enc Try.prog w base spare held fuel e cs = some x → ∃ y : α, d.K w y cs)
    {fuel : Nat} {v : Value} {x : DataW H × List MemPlace} (h : DataW.trod enc Try.prog w base spare held fuel t [v] = some x) :
    ∃ (A : Option Addr) (c : Nat) (l : List α), v = .slice A l.length c ∧ Kd.C d w A l.length l ∧ l.length ≤ c := by
  rcases open_slice ht h with ⟨hcs, _⟩ | ⟨a, len, cap, m, n, D, Pl, hcs, hb, hl, hm, hmm, hx, hi⟩
  · simp only [List.cons.injEq, and_true] at hcs
    subst hcs
    exact ⟨none, 0, [], rfl, ⟨rfl, by simp, fun q => absurd q (by simp)⟩, by simp⟩
  · simp only [List.cons.injEq, and_true] at hcs
    subst hcs
    have hlm : len ≤ m := by rw [hmm]; split <;> omega
    have hcell : ∀ i : Nat, i < len → ∃ y : α, ∃ cs', w.cells? base (a.add (i * d.sz)) d.sz = some cs' ∧ d.K w y cs' := fun i hil => by
      obtain ⟨cs', h1, h2⟩ := hi i (by omega)
      rw [hC] at h1
      obtain ⟨y, hy⟩ := ho _ _ _ h2
      exact ⟨y, cs', h1, hy⟩
    have hsel : ∀ j, j ≤ len → ∃ l : List α, l.length = j ∧ ∀ (i : Nat) (y : α), l[i]? = some y → ∃ cs', w.cells? base (a.add (i * d.sz)) d.sz = some cs' ∧ d.K w y cs' := by
      intro j
      induction j with
      | zero => exact fun _ => ⟨[], rfl, fun i y hy => by simp at hy⟩
      | succ j ih =>
        intro hj
        obtain ⟨l, hll, hlr⟩ := ih (by omega)
        obtain ⟨y, cs', h1, h2⟩ := hcell j (by omega)
        refine ⟨l ++ [y], by simp [hll], fun i z hz => ?_⟩
        by_cases hij : i < j
        · rw [List.getElem?_append_left (by omega)] at hz
          exact hlr i z hz
        · rw [List.getElem?_append_right (by omega)] at hz
          have hi0 : i = j := by
            by_cases q : i - l.length = 0
            · omega
            · obtain ⟨q', hq'⟩ : ∃ q', i - l.length = q' + 1 := ⟨i - l.length - 1, by omega⟩
              rw [hq'] at hz
              simp at hz
          subst hi0
          rw [show i - l.length = 0 by omega] at hz
          simp only [List.getElem?_cons_zero, Option.some.injEq] at hz
          subst hz
          exact ⟨cs', h1, h2⟩
    obtain ⟨l, hll, hlr⟩ := hsel len (Nat.le_refl _)
    refine ⟨some a, cap, l, by rw [hll], ⟨rfl, ?_, fun _ => ⟨a, rfl, fun j p hp => ?_⟩⟩, by omega⟩
    · have : cap ≤ 9223372036854775807 := hm
      omega
    · obtain ⟨cs', h1, h2⟩ := hlr j p hp
      obtain ⟨_, hcl, hat⟩ := World.cells?_some h1
      refine ⟨cs', hcl, h2, fun i u hu => ?_⟩
      have hil : i < d.sz := by rw [← hcl]; exact (List.getElem?_eq_some_iff.1 hu).1
      rw [← Go.Deep.add_add, hat i hil, hu]
set_option maxRecDepth 100000 in
theorem open_slate {r : Reach} {b0 : Nat} {v : Value} {d : DataW H} {p : List MemPlace} (hv : Value.okWide Try.prog w r b0 25 v) (h : DataW.Trod enc Try.prog w base spare held 25 v d p) :
    ∃ (n : Int) (A1 : Option Addr) (c1 : Nat) (l1 : List S91) (A2 : Option Addr) (c2 : Nat) (l2 : List S94), v = .agg #[.int .i64 n, .slice A1 l1.length c1, .slice A2 l2.length c2] ∧
      Kd.C k91 w A1 l1.length l1 ∧ l1.length ≤ c1 ∧ Kd.C k94 w A2 l2.length l2 ∧ l2.length ≤ c2 ∧ (Lit.int .i64 n).wf = true := by
  obtain ⟨v0, v1, v2, y0, y1, y2, n, rfl, _, _, h0, h1, h2⟩ := open_agg3 Try.underlying25 one25 cells_25 hv h
  obtain ⟨a, ha, _, hwf⟩ := DataW.trod_int Try.underlying3 h0
  simp only [List.cons.injEq, and_true] at ha
  subst ha
  obtain ⟨A1, c1, l1, rfl, q1, q2⟩ := open_row k91 Try.underlying22 cells_91 (fun fuel cs x hx => by
    obtain ⟨e, rfl⟩ := open_91 hx
    exact ⟨e, k91_mk w e⟩) h1
  obtain ⟨A2, c2, l2, rfl, q3, q4⟩ := open_row k94 Try.underlying23 cells_94 (fun fuel cs x hx => by
    obtain ⟨e, rfl⟩ := open_94 hx
    exact ⟨e, k94_mk w e⟩) h2
  exact ⟨a, A1, c1, l1, A2, c2, l2, rfl, q1, q2, q3, q4, hwf⟩
end
end Go.Proofs.Ytncaadckehikpaa.Q
namespace Go.Proofs.Ytncaadckehikpaa.Q
open Go.RowKit Go.Proofs.YtncaadckehikpaaW.PrintWords Go.Proofs.YtncaadckehikpaaW.PrintLast Go.Proofs.YtncaadckehikpaaW.PrintMore
open Go.ChangeShapes Go.WideShapes Go.Deep Go.Joins
set_option linter.unusedVariables false
set_option linter.unusedSimpArgs false
section
variable {H : Type} {enc : TypeId × Value → H} {w : World} {base : Nat} {spare : Nat → Bool} {held : Bool}
theorem cells_65 : Try.prog.cellsOf 65 = 1 := by kernel_rfl
set_option maxRecDepth 100000 in
theorem open_words {r : Reach} {b0 : Nat} {v : Value} {d : DataW H} {p : List MemPlace} (hv : Value.okWide Try.prog w r b0 83 v) (h : DataW.Trod enc Try.prog w base spare held 83 v d p) :
    ∃ (A : Option Addr) (c : Nat) (l : List Int), v = .slice A l.length c ∧ Kd.C (Kd.int .u16) w A l.length l ∧ l.length ≤ c := by
  obtain ⟨a, len, cap, rfl⟩ := okWide_slice Try.underlying83 hv
  obtain ⟨fuel, hf⟩ := h
  exact open_row (Kd.int .u16) Try.underlying83 cells_65 (fun fuel cs x hx => by
    obtain ⟨a, ha, _, _⟩ := DataW.trod_int Try.underlying65 hx
    exact ⟨a, ha⟩) (show DataW.trod enc Try.prog w base spare held fuel 83 [.slice a len cap] = _ from hf)
end
end Go.Proofs.Ytncaadckehikpaa.Q
namespace Go.Proofs.Ytncaadckehikpaa.soapNoFewer
open Go.ChangeShapes Go.WideShapes Go.ChangeAt Go.RowKit
set_option linter.unusedVariables false
theorem own : ownKnob Try.prog.godebug = none := by kernel_rfl
theorem laidOut : laidOutB Try.prog = true := by kernel_rfl
set_option maxRecDepth 100000 in
theorem lifted (os : Os) (started : os.Started) (H : Type) (enc : TypeId × Value → H) :
    ReturnsInHanded {} Try.checked os 9 .any (Rows.soapNoFewerSpec.pre6 enc Try.prog Try.f9 Rows.soapNoFewerRow.domain false) (Rows.soapNoFewerSpec.post enc Try.prog Try.f9 false true false false) := by
  refine returnsInHanded_of_change_sized (C := Try.checked) own started (by kernel_rfl) Try.func9
    (ChangeSpec.witness6 (enc := enc) (C := Try.checked) false ⟨#[], #[.agg #[.int .i64 0, .slice none 0 0, .slice none 0 0], .int .u16 0, .slice none 0 0], []⟩ 8 (by kernel_rfl) (by kernel_rfl) (by kernel_rfl) (by kernel_rfl)) ?_
  intro W base args ds gs before hval0 hW hcnd hsz0 _
  have hval : ∀ (j : Nat) t v, Try.f9.params[j]? = some t → args[j]? = some v → Value.okWide Try.prog W .any base t v := hval0
  have hW' := hW
  obtain ⟨p, q, hA0, hV, rfl, hfz, hnd⟩ := hW
  have hA : DataW.TrodAll enc Try.prog W 0 (fun _ => true) true Try.f9.params.toList args.toList ds p := hA0
  rw [Try.params9] at hA hval
  obtain ⟨v0, vs0, d0, ds0, p0, q0, hargs, rfl, rfl, h0, r0⟩ := trodAll_cons hA
  obtain ⟨v1, vs1, d1, ds1, p1, q1, rfl, rfl, rfl, h1, r1⟩ := trodAll_cons r0
  obtain ⟨v2, vs2, d2, ds2, p2, q2, rfl, rfl, rfl, h2, r2⟩ := trodAll_cons r1
  obtain ⟨rfl, rfl, rfl⟩ := trodAll_nil r2
  obtain rfl : args = #[v0, v1, v2] := by cases args; simp_all
  obtain ⟨rfl, rfl⟩ := trodVars_none hV
  have k0 := h0
  have lt0 : ∀ x ∈ p0, x.block < W.heap.size := by obtain ⟨m, hm⟩ := k0; exact DataW.trod_lt m _ _ _ hm
  obtain ⟨n0, A0a, c0a, l0a, A0b, c0b, l0b, rfl, hr0a, hc0a, hr0b, hc0b, hwf0⟩ := Q.open_slate (hval 0 25 v0 rfl rfl) h0
  obtain ⟨a1, rfl, rfl, rfl, w1⟩ := open_int Try.underlying65 (hval 1 65 v1 rfl rfl) h1
  have k2 := h2
  have lt2 : ∀ x ∈ p2, x.block < W.heap.size := by obtain ⟨m, hm⟩ := k2; exact DataW.trod_lt m _ _ _ hm
  obtain ⟨A2, c2, l2, rfl, hr2, hc2⟩ := Q.open_words (hval 2 83 v2 rfl rfl) h2
  clear hA0 hval0 hsz0
  refine (Q.soapNoFewer_calls n0 A0a c0a l0a A0b c0b l0b a1 (Q.u16_bd w1).1 (Q.u16_bd w1).2 A2 c2 l2 W hr0a hc0a hr0b hc0b hr2 hc2).mono fun e W' ⟨he, bel⟩ => ?_
  subst he
  exact ⟨_, rfl, _, _, _, [], _, [], hW', trodAll_mk1 (shut_bool Try.underlying4 _), (trodAll_cons_mk (Below.trod laidOut (by kernel_rfl) (of_decide_eq_true (by kernel_rfl)) k0 bel lt0) (trodAll_cons_mk (shut_int Try.underlying65 w1) (trodAll_cons_mk (Below.trod laidOut (by kernel_rfl) (of_decide_eq_true (by kernel_rfl)) k2 bel lt2) trodAll_mk0))), rfl, bel.frame _, fun h => by cases h⟩
theorem over : Rows.soapNoFewerRow.holds Try.pinned (OpenSpec.ofChange Rows.soapNoFewerSpec) :=
  OpenClaim.holds_of_wide 9 Try.f9 rfl rfl rfl rfl rfl rfl rfl ⟨rfl, rfl, rfl, rfl, rfl⟩ rfl rfl rfl rfl rfl (by kernel_rfl) Try.func9 (by kernel_rfl)
    (of_decide_eq_true (by kernel_rfl)) (by unfold Func.isWrapper; first | (rw [if_pos (by decide +kernel)]; kernel_rfl) | (rw [if_neg (by decide +kernel)]; exact ⟨rfl, rfl⟩))
    (fun os started H enc _ => lifted os started H enc)
end Go.Proofs.Ytncaadckehikpaa.soapNoFewer
namespace Go.Proofs.Ytncaadckehikpaa
/-- The statement. -/
theorem soapNoFewer_holds : Rows.SoapNoFewerSaid := soapNoFewer.over
end Go.Proofs.Ytncaadckehikpaa
