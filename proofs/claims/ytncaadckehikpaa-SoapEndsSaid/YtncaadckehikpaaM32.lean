/- The last part: the row, by the parts before. No condition. -/
import Derived.Lib.SmallJoins
import Derived.Deep.Slices
import Derived.ChangeSame
import Derived.WideLaws
import Derived.Test.YtncaadckehikpaaRows
import Derived.WalkKit
import Derived.ProofKit
import Derived.OpenShut
import Derived.ChangeOld
import Derived.Below
import Derived.SizedLaws
import Derived.Test.YtncaadckehikpaaM18
import Derived.Test.YtncaadckehikpaaM27
import Derived.Test.YtncaadckehikpaaM25
import Derived.Test.YtncaadckehikpaaM17
import Derived.Test.YtncaadckehikpaaM30
import Derived.Test.YtncaadckehikpaaM31
import Derived.Test.YtncaadckehikpaaM3
namespace Go.Proofs.Ytncaadckehikpaa.Q
open Go.RowKit Go.Proofs.YtncaadckehikpaaW.PrintWords Go.Proofs.YtncaadckehikpaaW.PrintLast Go.Proofs.YtncaadckehikpaaW.PrintMore
set_option linter.unusedVariables false
set_option linter.unusedSimpArgs false
def endAt (e0 e1 e2 e3 : Bool) : Nat → Bool
  | 0 => e0
  | 1 => e1
  | 2 => e2
  | _ => e3
/-- The ends that are met, behind the first k of four. -/
def met4 (m : Nat) (e0 e1 e2 e3 : Bool) : Nat → Nat
  | 0 => m
  | k + 1 => if endAt e0 e1 e2 e3 k = true then met4 m e0 e1 e2 e3 k ||| 2 ^ k else met4 m e0 e1 e2 e3 k
/-- .. behind the first i truths. -/
def metTo (N P : Nat → Int) (lo hi q0 q1 : Int) : Nat → Nat
  | 0 => 0
  | i + 1 => met4 (metTo N P lo hi q0 q1 i) (N i == lo) (N i == hi) (P i == q0) (P i == q1) 4
theorem or_lt_all : ∀ m : Fin 16, ∀ k : Fin 4, m.val ||| 2 ^ k.val < 16 ∧ bits .or .i64 ((m.val : Nat) : Int) (wrap64 (2 ^ k.val)) = ((m.val ||| 2 ^ k.val : Nat) : Int) := by decide +kernel
theorem met4_lt (m : Nat) (hm : m < 16) (e0 e1 e2 e3 : Bool) : ∀ k, k ≤ 4 → met4 m e0 e1 e2 e3 k < 16
  | 0, _ => hm
  | k + 1, h => by
    have ih := met4_lt m hm e0 e1 e2 e3 k (by omega)
    rw [met4]
    split
    · exact (or_lt_all ⟨_, ih⟩ ⟨k, by omega⟩).1
    · exact ih
theorem metTo_lt (N P : Nat → Int) (lo hi q0 q1 : Int) : ∀ i, metTo N P lo hi q0 q1 i < 16
  | 0 => by simp [metTo]
  | i + 1 => met4_lt _ (metTo_lt N P lo hi q0 q1 i) _ _ _ _ 4 (by omega)
section
variable (n : Int) (A1 : Option Addr) (c1 : Nat) (l1 : List S91) (A2 : Option Addr) (c2 : Nat) (l2 : List S94) (b : Int) (w : World)
  (hr1 : Kd.C k91 w A1 l1.length l1) (hc1 : l1.length ≤ c1) (hr2 : Kd.C k94 w A2 l2.length l2) (hc2 : l2.length ≤ c2)
set_option linter.unusedSectionVars false
include hr1 hc1 hr2 hc2
set_option maxHeartbeats 4000000 in
set_option maxRecDepth 100000 in
theorem ends_no (r : Bool) (f45 : pl_ready.f 100 n l1 l2 = some r) (h0 : r = true → n = 0) :
    Calls Try.prog 8 #[.agg #[.int .i64 n, .slice A1 l1.length c1, .slice A2 l2.length c2], .int .u8 b] w fun e w' => e = .returned (.bool true) ∧ Below w.heap.size w w' := by
  have hu25 := Try.underlying25
  have HB := mkA (z11 (Below.refl w.heap.size w) (.cells #[.int .i64 n, .slice A1 l1.length c1, .slice A2 l2.length c2] 25))
  have HK := mkA (z21 w (.cells #[.int .i64 n, .slice A1 l1.length c1, .slice A2 l2.length c2] 25))
  have H45 := mkA (pl_ready.calls 100 n A1 c1 l1 A2 c2 l2 r _ (Kd.C_below hr1 HB.out) hc1 (Kd.C_below hr2 HB.out) hc2 f45)
  have H0 := mkA h0
  clear hr1 hr2 f45 h0
  go_enter Try.func8, Try.ntmps8
  go_wp2_with fail
  refine H45.out.mono ?_
  rintro e w1 ⟨rfl, hb⟩
  replace HB := mkA (z17 HB.out hb)
  replace HK := mkA (blk_below HK.out hb)
  clear hb H45
  obtain ⟨k0, k1, k2⟩ := box3 HK.out
  cases r with
  | false =>
    go_wp2_with fail
    refine (pl_awake.calls true _ rfl).mono ?_
    rintro e w2 ⟨rfl, hb⟩
    replace HB := mkA (z17 HB.out hb)
    clear hb
    go_wp2
    go_ret
    exact ⟨rfl, HB.out⟩
  | true =>
    have z1 : (n == 0) = true := by rw [H0.out rfl]; rfl
    go_wp2_with fail
    refine (pl_awake.calls true _ rfl).mono ?_
    rintro e w2 ⟨rfl, hb⟩
    replace HB := mkA (z17 HB.out hb)
    clear hb
    go_wp2
    go_ret
    exact ⟨rfl, HB.out⟩
set_option maxHeartbeats 4000000 in
set_option maxRecDepth 100000 in
theorem ends_none (hb0 : 0 ≤ b) (hb1 : b < 256) (f45 : pl_ready.f 100 n l1 l2 = some true) (hn0 : 0 < n) (hn6 : n ≤ 6) (X1 : List S122) (X2 : List S124) (hx : SlateOk w (.agg #[.int .i64 n, .slice A1 l1.length c1, .slice A2 l2.length c2]) n X1 X2)
    (bs : List S44) (f22 : soap_Bounds.f n X1 X2 = some (bs, 11)) (q0 q1 : Int) (f37 : soap_Fewest.f n X1 X2 = some (q0, q1, 11)) (f53 : pr_Truths.f 3100 n l1 l2 = some []) :
    Calls Try.prog 8 #[.agg #[.int .i64 n, .slice A1 l1.length c1, .slice A2 l2.length c2], .int .u8 b] w fun e w' => e = .returned (.bool true) ∧ Below w.heap.size w w' := by
  have hu25 := Try.underlying25
  have hu44 := Try.underlying44
  have H45 := mkA (fun (W : World) (hb : Below w.heap.size w W) => pl_ready.calls 100 n A1 c1 l1 A2 c2 l2 true W (Kd.C_below hr1 hb) hc1 (Kd.C_below hr2 hb) hc2 f45)
  have H53 := mkA (fun (W : World) (hb : Below w.heap.size w W) => pr_Truths.calls 3100 n A1 c1 l1 A2 c2 l2 [] W (Kd.C_below hr1 hb) hc1 (Kd.C_below hr2 hb) hc2 f53)
  have HX := mkA hx
  have F22 := mkA f22
  have F37 := mkA f37
  clear hx hr1 hr2 f45 f53  f22 f37
  have z1 : (n == 0) = false := by rw [beq_eq_false_iff_ne]; omega
  have z2 : n ≠ 0 := by omega
  have HB := mkA (z11 (Below.refl w.heap.size w) (.cells #[.int .i64 n, .slice A1 l1.length c1, .slice A2 l2.length c2] 25))
  have HK := mkA (z21 w (.cells #[.int .i64 n, .slice A1 l1.length c1, .slice A2 l2.length c2] 25))
  go_enter Try.func8, Try.ntmps8
  go_wp2_with fail
  refine (H45.out _ HB.out).mono ?_
  rintro e w1 ⟨rfl, hb⟩
  replace HB := mkA (z17 HB.out hb)
  replace HK := mkA (blk_below HK.out hb)
  clear hb
  obtain ⟨k0, k1, k2⟩ := box3 HK.out
  go_wp2_with fail
  refine (HX.out _ HB.out).mono ?_
  rintro e w2 ⟨B1, d1, B2, d2, rfl, h1, h2, h3, h4, hb⟩
  replace HB := mkA (z17 HB.out hb)
  replace HK := mkA (blk_below HK.out hb)
  clear hb
  have P1 := mkA h1
  clear h1
  have P2 := mkA h3
  clear h3
  clear k0 k1 k2
  go_wp2_with fail
  refine (soap_Bounds.calls n B1 d1 X1 B2 d2 X2 _ _ _ P1.out h2 P2.out h4 F22.out).mono ?_
  rintro e w3 ⟨vb, rfl, hl, hb⟩
  replace HB := mkA (z17 HB.out hb)
  replace HK := mkA (blk_below HK.out hb)
  clear hb
  have LB := mkA hl
  clear hl
  obtain ⟨PB, dB, rfl, qB, RB⟩ := Kd.R_reads LB.out
  clear LB
  have LB := mkA RB
  clear RB
  clear P1 P2 h2 h4
  obtain ⟨k0, k1, k2⟩ := box3 HK.out
  go_wp2_with fail
  refine (HX.out _ HB.out).mono ?_
  rintro e w4 ⟨B1, d1, B2, d2, rfl, h1, h2, h3, h4, hb⟩
  replace HB := mkA (z17 HB.out hb)
  replace HK := mkA (blk_below HK.out hb)
  replace LB := mkA (Kd.C_below LB.out hb)
  clear hb
  have P1 := mkA h1
  clear h1
  have P2 := mkA h3
  clear h3
  clear k0 k1 k2
  go_wp2_with fail
  refine (soap_Fewest.calls n B1 d1 X1 B2 d2 X2 _ _ _ _ P1.out h2 P2.out h4 F37.out).mono ?_
  rintro e w5 ⟨rfl, hb⟩
  replace HB := mkA (z17 HB.out hb)
  replace HK := mkA (blk_below HK.out hb)
  replace LB := mkA (Kd.C_below LB.out hb)
  clear hb
  clear P1 P2 h2 h4
  have hb : Below w5.heap.size w5 (w5.alloc (.cells #[.int .i64 q0, .int .i64 q1] 44)) := z11 (Below.refl _ _) _
  have HQ := mkA (z21 w5 (.cells #[.int .i64 q0, .int .i64 q1] 44))
  replace HB := mkA (z17 HB.out hb)
  replace HK := mkA (blk_below HK.out hb)
  replace LB := mkA (Kd.C_below LB.out hb)
  clear hb
  obtain ⟨k0, k1, k2⟩ := box3 HK.out
  go_wp2_with fail
  refine (H53.out _ HB.out).mono ?_
  rintro e w6 ⟨vL, rfl, hl, hb⟩
  replace HB := mkA (z17 HB.out hb)
  replace HK := mkA (blk_below HK.out hb)
  replace LB := mkA (Kd.C_below LB.out hb)
  replace HQ := mkA (blk_below HQ.out hb)
  clear hb k0 k1 k2
  have LL := mkA hl
  clear hl
  obtain ⟨PL, dL, rfl, qL, RL⟩ := Kd.S_reads LL.out
  clear LL
  have LL := mkA RL
  clear RL
  go_wp2_with fail
  refine (pl_awake.calls true _ rfl).mono ?_
  rintro e w7 ⟨rfl, hb⟩
  replace HB := mkA (z17 HB.out hb)
  replace HK := mkA (blk_below HK.out hb)
  replace LB := mkA (Kd.C_below LB.out hb)
  replace HQ := mkA (blk_below HQ.out hb)
  replace LL := mkA (Kd.C_below LL.out hb)
  clear hb
  go_wp2
  go_ret
  exact ⟨rfl, HB.out⟩
set_option maxHeartbeats 4000000 in
set_option maxRecDepth 100000 in
theorem ends_yes (hb0 : 0 ≤ b) (hb1 : b < 256) (f45 : pl_ready.f 100 n l1 l2 = some true) (hn0 : 0 < n) (hn6 : n ≤ 6) (X1 : List S122) (X2 : List S124) (hx : SlateOk w (.agg #[.int .i64 n, .slice A1 l1.length c1, .slice A2 l2.length c2]) n X1 X2)
    (bs : List S44) (f22 : soap_Bounds.f n X1 X2 = some (bs, 0)) (hbl : (bs.length : Int) = n) (q0 q1 : Int) (f37 : soap_Fewest.f n X1 X2 = some (q0, q1, 0)) (L : List (List Int)) (f53 : pr_Truths.f 3100 n l1 l2 = some L) (hL : 0 < L.length) (hL2 : L.length ≤ 2000)
    (v : Int) (hv : b % n = v) (hv0 : 0 ≤ v) (hvn : v < n) (N P : Nat → Int) (hN : ∀ i : Nat, i < L.length → pr_Owed.f 100 n l1 l2 (rd_L4 L (i : Int)) v = some (N i) ∧ pr_Payments.f 6100 n l1 l2 (rd_L4 L (i : Int)) = some (P i))
    (h15 : metTo N P (rd_T44 bs v).f0 (rd_T44 bs v).f1 q0 q1 L.length = 15) :
    Calls Try.prog 8 #[.agg #[.int .i64 n, .slice A1 l1.length c1, .slice A2 l2.length c2], .int .u8 b] w fun e w' => e = .returned (.bool true) ∧ Below w.heap.size w w' := by
  have hu25 := Try.underlying25
  have hu44 := Try.underlying44
  have hu80 := Try.underlying80
  have H45 := mkA (fun (W : World) (hb : Below w.heap.size w W) => pl_ready.calls 100 n A1 c1 l1 A2 c2 l2 true W (Kd.C_below hr1 hb) hc1 (Kd.C_below hr2 hb) hc2 f45)
  have H53 := mkA (fun (W : World) (hb : Below w.heap.size w W) => pr_Truths.calls 3100 n A1 c1 l1 A2 c2 l2 L W (Kd.C_below hr1 hb) hc1 (Kd.C_below hr2 hb) hc2 f53)
  have H54 := mkA (fun (i : Nat) (hi : i < L.length) (W : World) (hb : Below w.heap.size w W) (PT : Option Addr) (dT : Nat) (hT : Kd.C (Kd.int .i64) W PT (rd_L4 L (i : Int)).length (rd_L4 L (i : Int))) (h : (rd_L4 L (i : Int)).length ≤ dT) => pr_Owed.calls 100 n A1 c1 l1 A2 c2 l2 PT dT (rd_L4 L (i : Int)) v (N i) W (Kd.C_below hr1 hb) hc1 (Kd.C_below hr2 hb) hc2 hT h (hN i hi).1)
  have H55 := mkA (fun (i : Nat) (hi : i < L.length) (W : World) (hb : Below w.heap.size w W) (PT : Option Addr) (dT : Nat) (hT : Kd.C (Kd.int .i64) W PT (rd_L4 L (i : Int)).length (rd_L4 L (i : Int))) (h : (rd_L4 L (i : Int)).length ≤ dT) => pr_Payments.calls 6100 n A1 c1 l1 A2 c2 l2 PT dT (rd_L4 L (i : Int)) (P i) W (Kd.C_below hr1 hb) hc1 (Kd.C_below hr2 hb) hc2 hT h (hN i hi).2)
  have HX := mkA hx
  have F22 := mkA f22
  have F37 := mkA f37
  have HV := mkA hv
  have H15 := mkA h15
  clear h15
  have HLB := mkA hbl
  clear hbl
  clear hx hr1 hr2 f45 f53 hN hv f22 f37
  have z1 : (n == 0) = false := by rw [beq_eq_false_iff_ne]; omega
  have z2 : n ≠ 0 := by omega
  have HB := mkA (z11 (Below.refl w.heap.size w) (.cells #[.int .i64 n, .slice A1 l1.length c1, .slice A2 l2.length c2] 25))
  have HK := mkA (z21 w (.cells #[.int .i64 n, .slice A1 l1.length c1, .slice A2 l2.length c2] 25))
  go_enter Try.func8, Try.ntmps8
  go_wp2_with fail
  refine (H45.out _ HB.out).mono ?_
  rintro e w1 ⟨rfl, hb⟩
  replace HB := mkA (z17 HB.out hb)
  replace HK := mkA (blk_below HK.out hb)
  clear hb
  obtain ⟨k0, k1, k2⟩ := box3 HK.out
  go_wp2_with fail
  refine (HX.out _ HB.out).mono ?_
  rintro e w2 ⟨B1, d1, B2, d2, rfl, h1, h2, h3, h4, hb⟩
  replace HB := mkA (z17 HB.out hb)
  replace HK := mkA (blk_below HK.out hb)
  clear hb
  have P1 := mkA h1
  clear h1
  have P2 := mkA h3
  clear h3
  clear k0 k1 k2
  go_wp2_with fail
  refine (soap_Bounds.calls n B1 d1 X1 B2 d2 X2 _ _ _ P1.out h2 P2.out h4 F22.out).mono ?_
  rintro e w3 ⟨vb, rfl, hl, hb⟩
  replace HB := mkA (z17 HB.out hb)
  replace HK := mkA (blk_below HK.out hb)
  clear hb
  have LB := mkA hl
  clear hl
  obtain ⟨PB, dB, rfl, qB, RB⟩ := Kd.R_reads LB.out
  clear LB
  have LB := mkA RB
  clear RB
  clear P1 P2 h2 h4
  obtain ⟨k0, k1, k2⟩ := box3 HK.out
  go_wp2_with fail
  refine (HX.out _ HB.out).mono ?_
  rintro e w4 ⟨B1, d1, B2, d2, rfl, h1, h2, h3, h4, hb⟩
  replace HB := mkA (z17 HB.out hb)
  replace HK := mkA (blk_below HK.out hb)
  replace LB := mkA (Kd.C_below LB.out hb)
  clear hb
  have P1 := mkA h1
  clear h1
  have P2 := mkA h3
  clear h3
  clear k0 k1 k2
  go_wp2_with fail
  refine (soap_Fewest.calls n B1 d1 X1 B2 d2 X2 _ _ _ _ P1.out h2 P2.out h4 F37.out).mono ?_
  rintro e w5 ⟨rfl, hb⟩
  replace HB := mkA (z17 HB.out hb)
  replace HK := mkA (blk_below HK.out hb)
  replace LB := mkA (Kd.C_below LB.out hb)
  clear hb
  clear P1 P2 h2 h4
  have hb : Below w5.heap.size w5 (w5.alloc (.cells #[.int .i64 q0, .int .i64 q1] 44)) := z11 (Below.refl _ _) _
  have HQ := mkA (z21 w5 (.cells #[.int .i64 q0, .int .i64 q1] 44))
  replace HB := mkA (z17 HB.out hb)
  replace HK := mkA (blk_below HK.out hb)
  replace LB := mkA (Kd.C_below LB.out hb)
  clear hb
  obtain ⟨k0, k1, k2⟩ := box3 HK.out
  go_wp2_with fail
  refine (H53.out _ HB.out).mono ?_
  rintro e w6 ⟨vL, rfl, hl, hb⟩
  replace HB := mkA (z17 HB.out hb)
  replace HK := mkA (blk_below HK.out hb)
  replace LB := mkA (Kd.C_below LB.out hb)
  replace HQ := mkA (blk_below HQ.out hb)
  clear hb k0 k1 k2
  have LL := mkA hl
  clear hl
  obtain ⟨PL, dL, rfl, qL, RL⟩ := Kd.S_reads LL.out
  clear LL
  have LL := mkA RL
  clear RL
  have zl : ((L.length : Int) == 0) = false := by rw [beq_eq_false_iff_ne]; omega
  have zb : ((bs.length : Int) == n) = true := by rw [beq_iff_eq]; exact HLB.out
  obtain ⟨k0, k1, k2⟩ := box3 HK.out
  go_wp2
  rw [HV.out]
  clear k0 k1 k2
  have HI0 := mkA (Below.refl w6.heap.size w6)
  go_loopw [11, 12] (fun m i wr => ∃ k : Nat, k ≤ L.length ∧ i = .int .i64 k ∧ m = .int .i64 ((metTo N P (rd_T44 bs v).f0 (rd_T44 bs v).f1 q0 q1 k : Nat) : Int) ∧ Below w6.heap.size w6 wr) (fun _ i _ => L.length - (intOf i).toNat)
  case atStart => exact ⟨0, by omega, rfl, rfl, HI0.out⟩
  case round =>
    clear HI0
    obtain ⟨k, hk, rfl, rfl, hbk⟩ := hrel
    have HBK := mkA hbk
    clear hbk
    by_cases hlt : k < L.length
    · have c0 : decide ((k : Int) < (L.length : Int)) = true := decide_eq_true (by omega)
      replace HB := mkA (z17 HB.out HBK.out)
      replace HK := mkA (blk_below HK.out HBK.out)
      replace LB := mkA (Kd.C_below LB.out HBK.out)
      replace HQ := mkA (blk_below HQ.out HBK.out)
      replace LL := mkA (Kd.C_below LL.out HBK.out)
      have c0' : decide (k < L.length) = true := decide_eq_true hlt
      have HM16 := mkA (metTo_lt N P (rd_T44 bs v).f0 (rd_T44 bs v).f1 q0 q1 k)
      obtain ⟨ad, A0, d0, e1, x0, x1, x2⟩ := at_L4 LL.out (k : Int) (by omega) (by omega)
      simp only [Int.toNat_natCast] at x0
      cases e1
      have HC := mkA x2
      clear x2
      have hk0 : (0 : Int) ≤ (k : Int) := by omega
      have hk1 : (k : Int) < (L.length : Int) := by omega
      have G54 := mkA (H54.out k hlt)
      have G55 := mkA (H55.out k hlt)
      generalize hos : rd_L4 L (k : Int) = os at x0 x1 HC G54 G55
      clear hos
      have X0 := mkA x0
      have hbox := box3 HK.out
      obtain ⟨k0, k1, k2⟩ := hbox
      go_wp2_with fail
      have HBL := mkA (show Below wr.heap.size wr wr.drew from z12 (Below.refl _ _))
      have HKS := mkA (fun (W' : World) (hb : Below wr.heap.size wr W') => (⟨(box3 (blk_below HK.out hb)).1, (box3 (blk_below HK.out hb)).2.1, (box3 (blk_below HK.out hb)).2.2, cell_below X0.out hb⟩ : W'.cell? ⟨w.heap.size, 0, none⟩ = some (.int .i64 n) ∧ W'.cell? ⟨w.heap.size, 1, none⟩ = some (.slice A1 l1.length c1) ∧ W'.cell? ⟨w.heap.size, 2, none⟩ = some (.slice A2 l2.length c2) ∧ W'.cell? (ad.add k) = some (.slice A0 os.length d0)))
      go_region_held3 (fun w' => w'.cell? ⟨w.heap.size, 0, none⟩ = some (.int .i64 n) ∧ w'.cell? ⟨w.heap.size, 1, none⟩ = some (.slice A1 l1.length c1) ∧ w'.cell? ⟨w.heap.size, 2, none⟩ = some (.slice A2 l2.length c2) ∧ w'.cell? (ad.add k) = some (.slice A0 os.length d0)) (exact HKS.out _ HBL.out) (first | ((with_reducible refine (G54.out _ (z17 HB.out HBL.out) A0 d0 (Kd.C_below HC.out HBL.out) x1).mono ?_); rintro e w7 ⟨rfl, hb⟩; replace HBL := mkA (z17 HBL.out hb); clear hb) | ((with_reducible refine (G55.out _ (z17 HB.out HBL.out) A0 d0 (Kd.C_below HC.out HBL.out) x1).mono ?_); rintro e w8 ⟨rfl, hb⟩; replace HBL := mkA (z17 HBL.out hb); clear hb) | fail)
      replace HB := mkA (z17 HB.out HBL.out)
      replace HK := mkA (blk_below HK.out HBL.out)
      replace LB := mkA (Kd.C_below LB.out HBL.out)
      replace HQ := mkA (blk_below HQ.out HBL.out)
      replace LL := mkA (Kd.C_below LL.out HBL.out)
      replace HBK := mkA (z17 HBK.out HBL.out)
      clear HKS HBL G54 G55 HC X0 x0 x1 k0 k1 k2
      have hvb : v < (bs.length : Int) := by have := HLB.out; omega
      obtain ⟨ad2, e2, y0, y1⟩ := at_T44 LB.out v hv0 hvb
      cases e2
      have Y0 := mkA y0
      have Y1 := mkA y1
      have hq2 := box2 HQ.out
      obtain ⟨k3, k4⟩ := hq2
      go_wp2
      have HKS := mkA (fun (W' : World) (hb : Below w8.heap.size w8 W') => (⟨cell_below Y0.out hb, cell_below Y1.out hb, (box2 (blk_below HQ.out hb)).1, (box2 (blk_below HQ.out hb)).2⟩ : W'.cell? (ad2.add (v.toNat * 2)) = some (.int .i64 (rd_T44 bs v).f0) ∧ W'.cell? ⟨(ad2.add (v.toNat * 2)).block, (ad2.add (v.toNat * 2)).off + 1, none⟩ = some (.int .i64 (rd_T44 bs v).f1) ∧ W'.cell? ⟨w5.heap.size, 0, none⟩ = some (.int .i64 q0) ∧ W'.cell? ⟨w5.heap.size, 1, none⟩ = some (.int .i64 q1)))
      go_region_held3? (fun w' => w'.cell? (ad2.add (v.toNat * 2)) = some (.int .i64 (rd_T44 bs v).f0) ∧ w'.cell? ⟨(ad2.add (v.toNat * 2)).block, (ad2.add (v.toNat * 2)).off + 1, none⟩ = some (.int .i64 (rd_T44 bs v).f1) ∧ w'.cell? ⟨w5.heap.size, 0, none⟩ = some (.int .i64 q0) ∧ w'.cell? ⟨w5.heap.size, 1, none⟩ = some (.int .i64 q1)) (exact HKS.out _ (by repeat (first | exact Below.refl _ _ | apply z12 | apply z11 | refine z15 ?_ (Nat.le_refl _)))) (fail)
      have HE := mkA (z28 (z21 w8 (.cells #[.bool (N k == (rd_T44 bs v).f0), .bool (N k == (rd_T44 bs v).f1), .bool (P k == q0), .bool (P k == q1)] 80)))
      replace HBK := mkA (z17 HBK.out (z12 (z11 (Below.refl _ _) (.cells #[.bool (N k == (rd_T44 bs v).f0), .bool (N k == (rd_T44 bs v).f1), .bool (P k == q0), .bool (P k == q1)] 80))))
      have HM1 := mkA (show metTo N P (rd_T44 bs v).f0 (rd_T44 bs v).f1 q0 q1 (k + 1) = met4 (metTo N P (rd_T44 bs v).f0 (rd_T44 bs v).f1 q0 q1 k) (N k == (rd_T44 bs v).f0) (N k == (rd_T44 bs v).f1) (P k == q0) (P k == q1) 4 from rfl)
      clear k3 k4 y0 y1 Y0 Y1 HKS HQ HK HB LB LL
      generalize (w8.alloc (.cells #[.bool (N k == (rd_T44 bs v).f0), .bool (N k == (rd_T44 bs v).f1), .bool (P k == q0), .bool (P k == q1)] 80)).drew = w9 at HE HBK ⊢
      generalize (N k == (rd_T44 bs v).f0) = e0 at HE HM1 ⊢
      generalize (N k == (rd_T44 bs v).f1) = e1 at HE HM1 ⊢
      generalize (P k == q0) = e2 at HE HM1 ⊢
      generalize (P k == q1) = e3 at HE HM1 ⊢
      generalize hMk : metTo N P (rd_T44 bs v).f0 (rd_T44 bs v).f1 q0 q1 k = Mk at HM1 HM16 ⊢
      clear hMk
      go_wp2
      go_loop [11, 16] (fun m i => ∃ j : Nat, j ≤ 4 ∧ i = .int .i64 j ∧ m = .int .i64 ((met4 Mk e0 e1 e2 e3 j : Nat) : Int)) (fun _ i => 4 - (intOf i).toNat)
      case atStart => exact ⟨0, by omega, rfl, rfl⟩
      case round =>
        obtain ⟨j, hj, rfl, rfl⟩ := hrel
        by_cases hj4 : j < 4
        · have d0 : decide ((j : Int) < 4) = true := decide_eq_true (by omega)
          have d1 : decide (j < 4) = true := decide_eq_true hj4
          have hj0 : (0 : Int) ≤ (j : Int) := by omega
          have hj1 : (j : Int) < 4 := by omega
          have xc : w9.cell? ⟨w8.heap.size, j, none⟩ = some (.bool (endAt e0 e1 e2 e3 j)) := by
            rw [z13 HE.out j]
            have : j = 0 ∨ j = 1 ∨ j = 2 ∨ j = 3 := by omega
            rcases this with rfl | rfl | rfl | rfl <;> rfl
          obtain ⟨m1, m2⟩ := or_lt_all ⟨met4 Mk e0 e1 e2 e3 j, met4_lt Mk HM16.out e0 e1 e2 e3 j hj⟩ ⟨j, hj4⟩
          have M2 := mkA m2
          clear m1 m2
          cases hc : endAt e0 e1 e2 e3 j with
          | false =>
            rw [hc] at xc
            go_wp2
            go_round
            case rel => exact ⟨j + 1, by omega, by go_num, by rw [met4, hc]; rfl⟩
            case measure => simp [intOf]; omega
          | true =>
            rw [hc] at xc
            go_wp2
            go_round
            case rel => exact ⟨j + 1, by omega, by go_num, by rw [met4, hc, if_pos rfl]; exact congrArg _ M2.out⟩
            case measure => simp [intOf]; omega
        · have d0 : decide ((j : Int) < 4) = false := decide_eq_false (by omega)
          have d1 : decide (j < 4) = false := decide_eq_false hj4
          obtain rfl : j = 4 := by omega
          go_wp2
          go_roundw
          case rel => exact ⟨k + 1, by omega, by go_num, by rw [HM1.out], HBK.out⟩
          case measure => simp [intOf]; omega
    · have c0 : decide ((k : Int) < (L.length : Int)) = false := decide_eq_false (by omega)
      have c0' : decide (k < L.length) = false := decide_eq_false hlt
      obtain rfl : k = L.length := by omega
      rw [H15.out]
      replace HB := mkA (z17 HB.out HBK.out)
      clear HBK LB LL HQ HK
      go_wp2_with fail
      refine (pl_awake.calls true _ rfl).mono ?_
      rintro e w7 ⟨rfl, hb⟩
      replace HB := mkA (z17 HB.out hb)
      clear hb
      go_wp2
      go_ret
      exact ⟨rfl, HB.out⟩
end
end Go.Proofs.Ytncaadckehikpaa.Q
namespace Go.Proofs.Ytncaadckehikpaa.Q
open Go.RowKit Go.Proofs.YtncaadckehikpaaW.PrintWords Go.Proofs.YtncaadckehikpaaW.PrintLast Go.Proofs.YtncaadckehikpaaW.PrintMore
set_option linter.unusedVariables false
set_option linter.unusedSimpArgs false
theorem met4_bits_all : ∀ m : Fin 16, ∀ e0 e1 e2 e3 : Bool, ∀ c : Fin 4, (met4 m.val e0 e1 e2 e3 4).testBit c.val = (m.val.testBit c.val || endAt e0 e1 e2 e3 c.val) := by decide +kernel
theorem full4_all : ∀ m : Fin 16, (∀ c : Fin 4, m.val.testBit c.val = true) → m.val = 15 := by decide +kernel
section
variable (N P : Nat → Int) (lo hi q0 q1 : Int)
theorem metTo_bit (c : Nat) (hc : c < 4) : ∀ i : Nat, (∃ j, j < i ∧ endAt (N j == lo) (N j == hi) (P j == q0) (P j == q1) c = true) → (metTo N P lo hi q0 q1 i).testBit c = true
  | 0, h => by obtain ⟨j, h1, _⟩ := h; omega
  | i + 1, h => by
    obtain ⟨j, h1, h2⟩ := h
    have hb := met4_bits_all ⟨metTo N P lo hi q0 q1 i, metTo_lt N P lo hi q0 q1 i⟩ (N i == lo) (N i == hi) (P i == q0) (P i == q1) ⟨c, hc⟩
    simp only [] at hb
    rw [metTo, hb]
    by_cases e : j = i
    · subst e
      rw [h2, Bool.or_true]
    · rw [metTo_bit c hc i ⟨j, by omega, h2⟩]
      rfl
theorem metTo_full (i : Nat) (h0 : ∃ j, j < i ∧ N j = lo) (h1 : ∃ j, j < i ∧ N j = hi) (h2 : ∃ j, j < i ∧ P j = q0) (h3 : ∃ j, j < i ∧ P j = q1) : metTo N P lo hi q0 q1 i = 15 := by
  refine full4_all ⟨_, metTo_lt N P lo hi q0 q1 i⟩ (fun c => ?_)
  have hb := metTo_bit N P lo hi q0 q1 c.val c.isLt i
  obtain ⟨c, hc⟩ := c
  have : c = 0 ∨ c = 1 ∨ c = 2 ∨ c = 3 := by omega
  rcases this with rfl | rfl | rfl | rfl
  · obtain ⟨j, a, b⟩ := h0; exact hb ⟨j, a, by simp [endAt, b]⟩
  · obtain ⟨j, a, b⟩ := h1; exact hb ⟨j, a, by simp [endAt, b]⟩
  · obtain ⟨j, a, b⟩ := h2; exact hb ⟨j, a, by simp [endAt, b]⟩
  · obtain ⟨j, a, b⟩ := h3; exact hb ⟨j, a, by simp [endAt, b]⟩
end
/-- The law's call. -/
theorem soapEnds_calls (n : Int) (A1 : Option Addr) (c1 : Nat) (l1 : List S91) (A2 : Option Addr) (c2 : Nat) (l2 : List S94) (b : Int) (hb0 : 0 ≤ b) (hb1 : b < 256) (w : World)
    (hr1 : Kd.C k91 w A1 l1.length l1) (hc1 : l1.length ≤ c1) (hr2 : Kd.C k94 w A2 l2.length l2) (hc2 : l2.length ≤ c2) :
    Calls Try.prog 8 #[.agg #[.int .i64 n, .slice A1 l1.length c1, .slice A2 l2.length c2], .int .u8 b] w fun e w' => e = .returned (.bool true) ∧ Below w.heap.size w w' := by
  have hrd := ready_split (n := n) (l1 := l1) (l2 := l2) 100 (by omega)
  by_cases hq : checkS n (l1.map c91) (l2.map c94) = 0 ∧ n ≠ 0
  · obtain ⟨hck, hn⟩ := hq
    rw [decide_eq_true hck] at hrd
    obtain ⟨z0, z1, z2, z3, z4, z5⟩ := z34 hck
    have hx := slate_ok n A1 _ c1 l1 A2 _ c2 l2 w hr1 hc1 hr2 hc2 (by omega) (by omega)
    have hT := Truths_f 3100 n l1 l2 hck (by omega)
    by_cases hne : truthsR (l1.map c91) (l2.map c94) = []
    · have hne2 := (truthsL_nil _ _).2 hne
      have ha := askErr_false hck hne2
      rw [hne] at hT
      exact ends_none n A1 c1 l1 A2 c2 l2 b w hr1 hc1 hr2 hc2 hb0 hb1 hrd (by omega) z1 _ _ hx [] (by rw [soap_Bounds.f, ha]; rfl) 0 0 (by rw [soap_Fewest.f, ha]; rfl) hT
    · have hne2 : truthsL (l1.map c91) (l2.map c94) ≠ [] := fun e => hne ((truthsL_nil _ _).1 e)
      have ha := askErr_zero hck hne2
      have hlen : (truthsR (l1.map c91) (l2.map c94)).length ≤ 2000 := truthsR_len n l1 l2 hck hne
      have hpos : 0 < (truthsR (l1.map c91) (l2.map c94)).length := by
        cases hx : truthsR (l1.map c91) (l2.map c94) with
        | nil => exact absurd hx hne
        | cons a r => simp
      have hv0 := Int.emod_nonneg b hn
      have hvn := Int.emod_lt_of_pos b (show 0 < n by omega)
      have hbl := boundsTo_length (truthsL (l1.map c91) (l2.map c94)) n.toNat
      have hso := small_truths hck
      have hmem : ∀ i : Nat, i < (truthsR (l1.map c91) (l2.map c94)).length → rd_L4 (truthsR (l1.map c91) (l2.map c94)) (i : Int) ∈ truthsR (l1.map c91) (l2.map c94) := fun i hi => by
        rw [rdL4 _ i hi]
        exact List.getElem_mem hi
      have hat : rd_T44 (z43 (truthsL (l1.map c91) (l2.map c94)) n.toNat) (b % n) = ⟨(bndL ((truthsL (l1.map c91) (l2.map c94)).map (fun u => rd u (b % n)))).1, (bndL ((truthsL (l1.map c91) (l2.map c94)).map (fun u => rd u (b % n)))).2⟩ := by
        have h := rd44 (z43 (truthsL (l1.map c91) (l2.map c94)) n.toNat) (b % n).toNat (by omega)
        rw [Int.toNat_of_nonneg hv0] at h
        rw [h]
        simp [z43, Int.toNat_of_nonneg hv0]
      have hend : ∀ (f : List Int → Int), (∃ j, j < (truthsR (l1.map c91) (l2.map c94)).length ∧ f (owedL (l1.map c91) (rd_L4 (truthsR (l1.map c91) (l2.map c94)) ((j : Nat) : Int))) = (bndL ((truthsL (l1.map c91) (l2.map c94)).map f)).1) ∧
          (∃ j, j < (truthsR (l1.map c91) (l2.map c94)).length ∧ f (owedL (l1.map c91) (rd_L4 (truthsR (l1.map c91) (l2.map c94)) ((j : Nat) : Int))) = (bndL ((truthsL (l1.map c91) (l2.map c94)).map f)).2) := fun f => by
        obtain ⟨s1, s2, s3⟩ := bnd_spec ((truthsL (l1.map c91) (l2.map c94)).map f) (by simpa using hne2)
        have go : ∀ y, y ∈ (truthsL (l1.map c91) (l2.map c94)).map f → ∃ j, j < (truthsR (l1.map c91) (l2.map c94)).length ∧ f (owedL (l1.map c91) (rd_L4 (truthsR (l1.map c91) (l2.map c94)) ((j : Nat) : Int))) = y := fun y hy => by
          obtain ⟨u, hu, rfl⟩ := List.mem_map.1 hy
          obtain ⟨os, ho, rfl⟩ := (mem_truthsL _ _ u).1 hu
          obtain ⟨j, hj, rfl⟩ := List.getElem_of_mem ho
          exact ⟨j, hj, by rw [rdL4 _ j hj]⟩
        exact ⟨go _ s1, go _ s2⟩
      refine ends_yes n A1 c1 l1 A2 c2 l2 b w hr1 hc1 hr2 hc2 hb0 hb1 hrd (by omega) z1 _ _ hx _ (by rw [soap_Bounds.f, ha]; rfl) (by rw [hbl]; omega) _ _ (by rw [soap_Fewest.f, ha]; rfl) _ hT hpos hlen (b % n) rfl hv0 hvn
        (fun i => rd (owedL (l1.map c91) (rd_L4 (truthsR (l1.map c91) (l2.map c94)) (i : Int))) (b % n)) (fun i => payN (owedL (l1.map c91) (rd_L4 (truthsR (l1.map c91) (l2.map c94)) (i : Int)))) (fun i hi => ⟨?_, ?_⟩) ?_
      · exact Owed_f 100 n l1 l2 _ (b % n) hck (hso _ (hmem i hi)) hv0 (by omega) (by omega)
      · exact Payments_f n l1 l2 _ hck (hso _ (hmem i hi)) 6100 (by omega)
      · rw [hat]
        exact metTo_full _ _ _ _ _ _ _ (hend (fun u => rd u (b % n))).1 (hend (fun u => rd u (b % n))).2 (hend payN).1 (hend payN).2
  · refine ends_no n A1 c1 l1 A2 c2 l2 b w hr1 hc1 hr2 hc2 _ hrd (fun h => ?_)
    by_cases hn : n = 0
    · exact hn
    · exact absurd ⟨of_decide_eq_true h, hn⟩ hq
end Go.Proofs.Ytncaadckehikpaa.Q
namespace Go.Proofs.Ytncaadckehikpaa.Q
open Go.RowKit Go.Proofs.YtncaadckehikpaaW.PrintWords Go.Proofs.YtncaadckehikpaaW.PrintLast Go.Proofs.YtncaadckehikpaaW.PrintMore
open Go.ChangeShapes Go.WideShapes Go.Deep Go.Joins
set_option linter.unusedVariables false
set_option linter.unusedSimpArgs false
theorem list2 {α : Type} {l : List α} (h : l.length = 2) : ∃ a b, l = [a, b] := by
  match l, h with
  | [a, b], _ => exact ⟨a, b, rfl⟩
theorem list3 {α : Type} {l : List α} (h : l.length = 3) : ∃ a b c, l = [a, b, c] := by
  match l, h with
  | [a, b, c], _ => exact ⟨a, b, c, rfl⟩
theorem list4 {α : Type} {l : List α} (h : l.length = 4) : ∃ a b c d, l = [a, b, c, d] := by
  match l, h with
  | [a, b, c, d], _ => exact ⟨a, b, c, d, rfl⟩
section
variable {H : Type} {enc : TypeId × Value → H} {w : World} {base : Nat} {spare : Nat → Bool} {held : Bool}
theorem cells_3 : Try.prog.cellsOf 3 = 1 := by kernel_rfl
theorem cells_46 : Try.prog.cellsOf 46 = 2 := by kernel_rfl
theorem cells_91 : Try.prog.cellsOf 91 = 4 := by kernel_rfl
theorem cells_94 : Try.prog.cellsOf 94 = 3 := by kernel_rfl
theorem cells_25 : Try.prog.cellsOf 25 = 3 := by kernel_rfl
theorem one25 : oneCellFields Try.prog #[{ name := "Women", type := 3, offset := 0, embedded := false, tag := "", pkgPath := "", byteOffset := 0 }, { name := "Entries", type := 22, offset := 1, embedded := false, tag := "", pkgPath := "", byteOffset := 8 }, { name := "Sayings", type := 23, offset := 2, embedded := false, tag := "", pkgPath := "", byteOffset := 32 }] = true := by kernel_rfl
theorem u8_bd {a : Int} (h : (Lit.int .u8 a).wf = true) : 0 ≤ a ∧ a < 256 := by
  have h1 : IntKind.u8.min = 0 := by decide
  have h2 : IntKind.u8.max = 255 := by decide
  simp only [Lit.wf, Bool.and_eq_true, decide_eq_true_eq, h1, h2] at h
  omega
/-- A range. -/
theorem open_46 {fuel : Nat} {cs : List Value} {x : DataW H × List MemPlace} (h : DataW.trod enc Try.prog w base spare held fuel 46 cs = some x) :
    ∃ a b : Int, cs = [.int .i64 a, .int .i64 b] := by
  obtain ⟨xs, n, _, _, hl, hlen, hf⟩ := DataW.trod_struct Try.underlying46 h
  rw [cells_46] at hl
  obtain ⟨c0, c1, rfl⟩ := list2 hl
  obtain ⟨y0, y1, rfl⟩ := list2 hlen
  have h0 := hf 0 _ rfl
  change DataW.trod enc Try.prog w base spare held n 3 (([c0, c1].drop 0).take (Try.prog.cellsOf 3)) = some y0 at h0
  rw [cells_3] at h0
  have h1 := hf 1 _ rfl
  change DataW.trod enc Try.prog w base spare held n 3 (([c0, c1].drop 1).take (Try.prog.cellsOf 3)) = some y1 at h1
  rw [cells_3] at h1
  obtain ⟨a, ha, _, _⟩ := DataW.trod_int Try.underlying3 h0
  obtain ⟨b, hb, _, _⟩ := DataW.trod_int Try.underlying3 h1
  have ha' : [c0] = _ := ha
  have hb' : [c1] = _ := hb
  simp only [List.cons.injEq, and_true] at ha' hb'
  exact ⟨a, b, by rw [ha', hb']⟩
/-- An entry. -/
theorem open_91 {fuel : Nat} {cs : List Value} {x : DataW H × List MemPlace} (h : DataW.trod enc Try.prog w base spare held fuel 91 cs = some x) :
    ∃ e : S91, cs = [.int .i64 e.f0, .int .i64 e.f1, .int .i64 e.f2.f0, .int .i64 e.f2.f1] := by
  obtain ⟨xs, n, _, _, hl, hlen, hf⟩ := DataW.trod_struct Try.underlying91 h
  rw [cells_91] at hl
  obtain ⟨c0, c1, c2, c3, rfl⟩ := list4 hl
  obtain ⟨y0, y1, y2, rfl⟩ := list3 hlen
  have h0 := hf 0 _ rfl
  change DataW.trod enc Try.prog w base spare held n 3 (([c0, c1, c2, c3].drop 0).take (Try.prog.cellsOf 3)) = some y0 at h0
  rw [cells_3] at h0
  have h1 := hf 1 _ rfl
  change DataW.trod enc Try.prog w base spare held n 3 (([c0, c1, c2, c3].drop 1).take (Try.prog.cellsOf 3)) = some y1 at h1
  rw [cells_3] at h1
  have h2 := hf 2 _ rfl
  change DataW.trod enc Try.prog w base spare held n 46 (([c0, c1, c2, c3].drop 2).take (Try.prog.cellsOf 46)) = some y2 at h2
  rw [cells_46] at h2
  obtain ⟨a, ha, _, _⟩ := DataW.trod_int Try.underlying3 h0
  obtain ⟨b, hb, _, _⟩ := DataW.trod_int Try.underlying3 h1
  obtain ⟨c, d, hc⟩ := open_46 h2
  have ha' : [c0] = _ := ha
  have hb' : [c1] = _ := hb
  have hc' : [c2, c3] = _ := hc
  simp only [List.cons.injEq, and_true] at ha' hb' hc'
  exact ⟨⟨a, b, ⟨c, d⟩⟩, by rw [ha', hb', hc'.1, hc'.2]⟩
/-- A saying. -/
theorem open_94 {fuel : Nat} {cs : List Value} {x : DataW H × List MemPlace} (h : DataW.trod enc Try.prog w base spare held fuel 94 cs = some x) :
    ∃ e : S94, cs = [.int .i64 e.f0, .int .i64 e.f1.f0, .int .i64 e.f1.f1] := by
  obtain ⟨xs, n, _, _, hl, hlen, hf⟩ := DataW.trod_struct Try.underlying94 h
  rw [cells_94] at hl
  obtain ⟨c0, c1, c2, rfl⟩ := list3 hl
  obtain ⟨y0, y1, rfl⟩ := list2 hlen
  have h0 := hf 0 _ rfl
  change DataW.trod enc Try.prog w base spare held n 3 (([c0, c1, c2].drop 0).take (Try.prog.cellsOf 3)) = some y0 at h0
  rw [cells_3] at h0
  have h1 := hf 1 _ rfl
  change DataW.trod enc Try.prog w base spare held n 46 (([c0, c1, c2].drop 1).take (Try.prog.cellsOf 46)) = some y1 at h1
  rw [cells_46] at h1
  obtain ⟨a, ha, _, _⟩ := DataW.trod_int Try.underlying3 h0
  obtain ⟨c, d, hc⟩ := open_46 h1
  have ha' : [c0] = _ := ha
  have hc' : [c1, c2] = _ := hc
  simp only [List.cons.injEq, and_true] at ha' hc'
  exact ⟨⟨a, ⟨c, d⟩⟩, by rw [ha', hc'.1, hc'.2]⟩
/-- A row whose elements open. -/
theorem open_row {α : Type} (d : Kd α) {t e : TypeId} (ht : Try.prog.underlying t = some (.slice e)) (hC : Try.prog.cellsOf e = d.sz)
    (ho : ∀ (fuel : Nat) (cs : List Value) (x : DataW H × List MemPlace), DataW.trod enc Try.prog w base spare held fuel e cs = some x → ∃ y : α, d.K w y cs)
    {fuel : Nat} {v : Value} {x : DataW H × List MemPlace} (h : DataW.trod enc Try.prog w base spare held fuel t [v] = some x) :
    ∃ (A : Option Addr) (c : Nat) (l : List α), v = .slice A l.length c ∧ Kd.C d w A l.length l ∧ l.length ≤ c := by
  rcases open_slice ht h with ⟨hcs, _⟩ | ⟨a, len, cap, m, n, D, Pl, hcs, hb, hl, hm, hmm, hx, hi⟩
  · simp only [List.cons.injEq, and_true] at hcs
    subst hcs
    exact ⟨none, 0, [], rfl, ⟨rfl, by simp, fun q => absurd q (by simp)⟩, by simp⟩
  · simp only [List.cons.injEq, and_true] at hcs
    subst hcs
    have hlm : len ≤ m := by rw [hmm]; split <;> omega
    have hcell : ∀ i : Nat, i < len → ∃ y : α, ∃ cs', w.cells? base (a.add (i * d.sz)) d.sz = some cs' ∧ d.K w y cs' := fun i hil => by
      obtain ⟨cs', h1, h2⟩ := hi i (by omega)
      rw [hC] at h1
      obtain ⟨y, hy⟩ := ho _ _ _ h2
      exact ⟨y, cs', h1, hy⟩
    have hsel : ∀ j, j ≤ len → ∃ l : List α, l.length = j ∧ ∀ (i : Nat) (y : α), l[i]? = some y → ∃ cs', w.cells? base (a.add (i * d.sz)) d.sz = some cs' ∧ d.K w y cs' := by
      intro j
      induction j with
      | zero => exact fun _ => ⟨[], rfl, fun i y hy => by simp at hy⟩
      | succ j ih =>
        intro hj
        obtain ⟨l, hll, hlr⟩ := ih (by omega)
        obtain ⟨y, cs', h1, h2⟩ := hcell j (by omega)
        refine ⟨l ++ [y], by simp [hll], fun i z hz => ?_⟩
        by_cases hij : i < j
        · rw [List.getElem?_append_left (by omega)] at hz
          exact hlr i z hz
        · rw [List.getElem?_append_right (by omega)] at hz
          have hi0 : i = j := by
            by_cases q : i - l.length = 0
            · omega
            · obtain ⟨q', hq'⟩ : ∃ q', i - l.length = q' + 1 := ⟨i - l.length - 1, by omega⟩
              rw [hq'] at hz
              simp at hz
          subst hi0
          rw [show i - l.length = 0 by omega] at hz
          simp only [List.getElem?_cons_zero, Option.some.injEq] at hz
          subst hz
          exact ⟨cs', h1, h2⟩
    obtain ⟨l, hll, hlr⟩ := hsel len (Nat.le_refl _)
    refine ⟨some a, cap, l, by rw [hll], ⟨rfl, ?_, fun _ => ⟨a, rfl, fun j p hp => ?_⟩⟩, by omega⟩
    · have : cap ≤ 9223372036854775807 := hm
      omega
    · obtain ⟨cs', h1, h2⟩ := hlr j p hp
      obtain ⟨_, hcl, hat⟩ := World.cells?_some h1
      refine ⟨cs', hcl, h2, fun i u hu => ?_⟩
      have hil : i < d.sz := by rw [← hcl]; exact (List.getElem?_eq_some_iff.1 hu).1
      rw [← Go.Deep.add_add, hat i hil, hu]
set_option maxRecDepth 100000 in
theorem open_slate {r : Reach} {b0 : Nat} {v : Value} {d : DataW H} {p : List MemPlace} (hv : Value.okWide Try.prog w r b0 25 v) (h : DataW.Trod enc Try.prog w base spare held 25 v d p) :
    ∃ (n : Int) (A1 : Option Addr) (c1 : Nat) (l1 : List S91) (A2 : Option Addr) (c2 : Nat) (l2 : List S94), v = .agg #[.int .i64 n, .slice A1 l1.length c1, .slice A2 l2.length c2] ∧
      Kd.C k91 w A1 l1.length l1 ∧ l1.length ≤ c1 ∧ Kd.C k94 w A2 l2.length l2 ∧ l2.length ≤ c2 ∧ (Lit.int .i64 n).wf = true := by
  obtain ⟨v0, v1, v2, y0, y1, y2, n, rfl, _, _, h0, h1, h2⟩ := open_agg3 Try.underlying25 one25 cells_25 hv h
  obtain ⟨a, ha, _, hwf⟩ := DataW.trod_int Try.underlying3 h0
  simp only [List.cons.injEq, and_true] at ha
  subst ha
  obtain ⟨A1, c1, l1, rfl, q1, q2⟩ := open_row k91 Try.underlying22 cells_91 (fun fuel cs x hx => by
    obtain ⟨e, rfl⟩ := open_91 hx
    exact ⟨e, k91_mk w e⟩) h1
  obtain ⟨A2, c2, l2, rfl, q3, q4⟩ := open_row k94 Try.underlying23 cells_94 (fun fuel cs x hx => by
    obtain ⟨e, rfl⟩ := open_94 hx
    exact ⟨e, k94_mk w e⟩) h2
  exact ⟨a, A1, c1, l1, A2, c2, l2, rfl, q1, q2, q3, q4, hwf⟩
end
end Go.Proofs.Ytncaadckehikpaa.Q
namespace Go.Proofs.Ytncaadckehikpaa.soapEnds
open Go.ChangeShapes Go.WideShapes Go.ChangeAt Go.RowKit
set_option linter.unusedVariables false
theorem own : ownKnob Try.prog.godebug = none := by kernel_rfl
theorem laidOut : laidOutB Try.prog = true := by kernel_rfl
set_option maxRecDepth 100000 in
theorem lifted (os : Os) (started : os.Started) (H : Type) (enc : TypeId × Value → H) :
    ReturnsInHanded {} Try.checked os 8 .any (Rows.soapEndsSpec.pre6 enc Try.prog Try.f8 Rows.soapEndsRow.domain false) (Rows.soapEndsSpec.post enc Try.prog Try.f8 false true false false) := by
  refine returnsInHanded_of_change_sized (C := Try.checked) own started (by kernel_rfl) Try.func8
    (ChangeSpec.witness6 (enc := enc) (C := Try.checked) false ⟨#[], #[.agg #[.int .i64 0, .slice none 0 0, .slice none 0 0], .int .u8 0], []⟩ 8 (by kernel_rfl) (by kernel_rfl) (by kernel_rfl) (by kernel_rfl)) ?_
  intro W base args ds gs before hval0 hW hcnd hsz0 _
  have hval : ∀ (j : Nat) t v, Try.f8.params[j]? = some t → args[j]? = some v → Value.okWide Try.prog W .any base t v := hval0
  have hW' := hW
  obtain ⟨p, q, hA0, hV, rfl, hfz, hnd⟩ := hW
  have hA : DataW.TrodAll enc Try.prog W 0 (fun _ => true) true Try.f8.params.toList args.toList ds p := hA0
  rw [Try.params8] at hA hval
  obtain ⟨v0, vs0, d0, ds0, p0, q0, hargs, rfl, rfl, h0, r0⟩ := trodAll_cons hA
  obtain ⟨v1, vs1, d1, ds1, p1, q1, rfl, rfl, rfl, h1, r1⟩ := trodAll_cons r0
  obtain ⟨rfl, rfl, rfl⟩ := trodAll_nil r1
  obtain rfl : args = #[v0, v1] := by cases args; simp_all
  obtain ⟨rfl, rfl⟩ := trodVars_none hV
  have k0 := h0
  have lt0 : ∀ x ∈ p0, x.block < W.heap.size := by obtain ⟨m, hm⟩ := k0; exact DataW.trod_lt m _ _ _ hm
  obtain ⟨n0, A0a, c0a, l0a, A0b, c0b, l0b, rfl, hr0a, hc0a, hr0b, hc0b, hwf0⟩ := Q.open_slate (hval 0 25 v0 rfl rfl) h0
  obtain ⟨a1, rfl, rfl, rfl, w1⟩ := open_int Try.underlying5 (hval 1 5 v1 rfl rfl) h1
  clear hA0 hval0 hsz0
  refine (Q.soapEnds_calls n0 A0a c0a l0a A0b c0b l0b a1 (Q.u8_bd w1).1 (Q.u8_bd w1).2 W hr0a hc0a hr0b hc0b).mono fun e W' ⟨he, bel⟩ => ?_
  subst he
  exact ⟨_, rfl, _, _, _, [], _, [], hW', trodAll_mk1 (shut_bool Try.underlying4 _), (trodAll_cons_mk (Below.trod laidOut (by kernel_rfl) (of_decide_eq_true (by kernel_rfl)) k0 bel lt0) (trodAll_cons_mk (shut_int Try.underlying5 w1) trodAll_mk0)), rfl, bel.frame _, fun h => by cases h⟩
theorem over : Rows.soapEndsRow.holds Try.pinned (OpenSpec.ofChange Rows.soapEndsSpec) :=
  OpenClaim.holds_of_wide 8 Try.f8 rfl rfl rfl rfl rfl rfl rfl ⟨rfl, rfl, rfl, rfl, rfl⟩ rfl rfl rfl rfl rfl (by kernel_rfl) Try.func8 (by kernel_rfl)
    (of_decide_eq_true (by kernel_rfl)) (by unfold Func.isWrapper; first | (rw [if_pos (by decide +kernel)]; kernel_rfl) | (rw [if_neg (by decide +kernel)]; exact ⟨rfl, rfl⟩))
    (fun os started H enc _ => lifted os started H enc)
end Go.Proofs.Ytncaadckehikpaa.soapEnds
namespace Go.Proofs.Ytncaadckehikpaa
/-- The statement. -/
theorem soapEnds_holds : Rows.SoapEndsSaid := soapEnds.over
end Go.Proofs.Ytncaadckehikpaa
