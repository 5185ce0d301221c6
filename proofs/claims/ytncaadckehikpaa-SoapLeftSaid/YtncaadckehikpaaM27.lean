/- The last part: the row, by the parts before. No condition. -/
import Derived.Lib.SmallJoins
import Derived.Deep.Slices
import Derived.ChangeSame
import Derived.WideLaws
import Derived.Test.YtncaadckehikpaaRows
import Derived.WalkKit
import Derived.ProofKit
import Derived.OpenShut
import Derived.ChangeOld
import Derived.Below
import Derived.SizedLaws
import Derived.Test.YtncaadckehikpaaM26
import Derived.Test.YtncaadckehikpaaM23
import Derived.Test.YtncaadckehikpaaM19
import Derived.Test.YtncaadckehikpaaM22
import Derived.Test.YtncaadckehikpaaM25
import Derived.Test.YtncaadckehikpaaM3
namespace Go.Proofs.Ytncaadckehikpaa.Q
open Go.RowKit Go.Proofs.YtncaadckehikpaaW.PrintWords Go.Proofs.YtncaadckehikpaaW.PrintLast Go.Proofs.YtncaadckehikpaaW.PrintMore
set_option linter.unusedVariables false
set_option linter.unusedSimpArgs false
/-- The bits of the first k numbers of a list. -/
def mskTo (o : List Int) : Nat → Nat
  | 0 => 0
  | k + 1 => mskTo o k + 2 ^ (rd o (k : Int)).toNat
section
variable (n : Int) (A1 : Option Addr) (c1 : Nat) (l1 : List S91) (A2 : Option Addr) (c2 : Nat) (l2 : List S94) (b : Int) (w : World)
  (hr1 : Kd.C k91 w A1 l1.length l1) (hc1 : l1.length ≤ c1) (hr2 : Kd.C k94 w A2 l2.length l2) (hc2 : l2.length ≤ c2)
set_option linter.unusedSectionVars false
include hr1 hc1 hr2 hc2
set_option maxHeartbeats 4000000 in
set_option maxRecDepth 100000 in
theorem left_no (f45 : pl_ready.f 100 n l1 l2 = some false) :
    Calls Try.prog 16 #[.agg #[.int .i64 n, .slice A1 l1.length c1, .slice A2 l2.length c2], .int .u8 b] w fun e w' => e = .returned (.bool true) ∧ Below w.heap.size w w' := by
  have hu25 := Try.underlying25
  have HB := mkA (z10 (Below.refl w.heap.size w) (.cells #[.int .i64 n, .slice A1 l1.length c1, .slice A2 l2.length c2] 25))
  have H45 := mkA (pl_ready.calls 100 n A1 c1 l1 A2 c2 l2 false _ (Kd.C_below hr1 HB.out) hc1 (Kd.C_below hr2 HB.out) hc2 f45)
  clear hr1 hr2 f45
  go_enter Try.func16, Try.ntmps16
  go_wp2_with fail
  refine H45.out.mono ?_
  rintro e w1 ⟨rfl, hb⟩
  replace HB := mkA (z16 HB.out hb)
  clear hb H45
  go_wp2_with fail
  refine (pl_awake.calls true _ rfl).mono ?_
  rintro e w2 ⟨rfl, hb⟩
  replace HB := mkA (z16 HB.out hb)
  clear hb
  go_wp2
  go_ret
  exact ⟨rfl, HB.out⟩
set_option maxHeartbeats 4000000 in
set_option maxRecDepth 100000 in
theorem left_yes (hb0 : 0 ≤ b) (hb1 : b < 256) (f45 : pl_ready.f 100 n l1 l2 = some true) (q1 : l1.length ≤ 30) (q2 : l2.length ≤ 5) (X1 : List S122) (X2 : List S124) (hx : SlateOk w (.agg #[.int .i64 n, .slice A1 l1.length c1, .slice A2 l2.length c2]) n X1 X2)
    (o : List Int) (f40 : soap_Leave.f n X1 X2 = some (o, 0)) (ho6 : o.length ≤ 6) (ho : ∀ k : Nat, k < o.length → 0 ≤ rd o (k : Int) ∧ rd o (k : Int) < l2.length ∧ (0 < k → rd o ((k : Int) - 1) < rd o (k : Int)) ∧ bits .or .i64 ((mskTo o k : Nat) : Int) (wrap64 (2 ^ (rd o (k : Int)).toNat)) = ((mskTo o (k + 1) : Nat) : Int))
    (F : Int) (f62 : pr_Full.f n l1 l2 = some F) (y : Nat) (hy : bits .and .i64 b F = (y : Int)) (z1 z2 : Nat) (hz1 : bits .andNot .i64 F ((mskTo o o.length : Nat) : Int) = (z1 : Int)) (hz2 : bits .andNot .i64 F (y : Int) = (z2 : Int)) (hz : z1 < 64 ∧ z2 < 64)
    (Y1 Y2 : List S124) (hX1 : l1.map c91 = X1) (hY1 : (someL l2 z1).map c94 = Y1) (hY2 : (someL l2 z2).map c94 = Y2)
    (bs : List S44) (f22 : soap_Bounds.f n X1 Y1 = some (bs, 0)) (bs2 : List S44) (g : Int) (f23 : soap_Bounds.f n X1 Y2 = some (bs2, g)) (hg : g = 0 ∨ g = 11) (By : List Int) (f58 : pr_Bits.f 100 (y : Int) = some By) (f63 : g = 0 → pr_Shorter.f 100 By o = some false) :
    Calls Try.prog 16 #[.agg #[.int .i64 n, .slice A1 l1.length c1, .slice A2 l2.length c2], .int .u8 b] w fun e w' => e = .returned (.bool true) ∧ Below w.heap.size w w' := by
  have hu25 := Try.underlying25
  have H45 := mkA (fun (W : World) (hb : Below w.heap.size w W) => pl_ready.calls 100 n A1 c1 l1 A2 c2 l2 true W (Kd.C_below hr1 hb) hc1 (Kd.C_below hr2 hb) hc2 f45)
  have H62 := mkA (fun (W : World) (hb : Below w.heap.size w W) => pr_Full.calls n A1 c1 l1 A2 c2 l2 F W (Kd.C_below hr1 hb) hc1 (Kd.C_below hr2 hb) hc2 f62)
  have HX := mkA hx
  have F40 := mkA f40
  have F22 := mkA f22
  have F23 := mkA f23
  have F58 := mkA f58
  have F63 := mkA f63
  have HR1 := mkA hr1
  have HR2 := mkA hr2
  have E1 := mkA hX1
  have E2 := mkA hY1
  have E3 := mkA hY2
  have HO := mkA ho
  have HY := mkA hy
  have HZ1 := mkA hz1
  have HZ2 := mkA hz2
  have HZ0 := mkA hz
  have HG := mkA hg
  clear hx hr1 hr2 f45 f62 ho hy hz1 hz2 hz hg hX1 hY1 hY2 f40 f22 f23 f58 f63
  have HB := mkA (z10 (Below.refl w.heap.size w) (.cells #[.int .i64 n, .slice A1 l1.length c1, .slice A2 l2.length c2] 25))
  have HK := mkA (z19 w (.cells #[.int .i64 n, .slice A1 l1.length c1, .slice A2 l2.length c2] 25))
  go_enter Try.func16, Try.ntmps16
  go_wp2_with fail
  refine (H45.out _ HB.out).mono ?_
  rintro e w1 ⟨rfl, hb⟩
  replace HB := mkA (z16 HB.out hb)
  replace HK := mkA (blk_below HK.out hb)
  clear hb
  obtain ⟨k0, k1, k2⟩ := box3 HK.out
  go_wp2_with fail
  refine (HX.out _ HB.out).mono ?_
  rintro e w2 ⟨B1, d1, B2, d2, rfl, h1, h2, h3, h4, hb⟩
  replace HB := mkA (z16 HB.out hb)
  replace HK := mkA (blk_below HK.out hb)
  clear hb
  have P1 := mkA h1
  clear h1
  have P2 := mkA h3
  clear h3
  clear k0 k1 k2
  go_wp2_with fail
  refine (soap_Leave.calls n B1 d1 X1 B2 d2 X2 _ _ _ P1.out h2 P2.out h4 F40.out).mono ?_
  rintro e w3 ⟨vo, rfl, hl, hb⟩
  replace HB := mkA (z16 HB.out hb)
  replace HK := mkA (blk_below HK.out hb)
  clear hb
  have LO := mkA hl
  clear hl
  clear P1 P2 h2 h4
  obtain ⟨PO, dO, rfl, qO, RO⟩ := Kd.R_reads LO.out
  clear LO
  have LO := mkA RO
  clear RO
  obtain ⟨k0, k1, k2⟩ := box3 HK.out
  go_wp2
  have HI0 := mkA (Below.refl w3.heap.size w3)
  go_loopw [7, 8] (fun m i wr => ∃ k : Nat, k ≤ o.length ∧ i = .int .i64 k ∧ m = .int .i64 ((mskTo o k : Nat) : Int) ∧ Below w3.heap.size w3 wr) (fun _ i _ => o.length - (intOf i).toNat)
  case atStart => exact ⟨0, by omega, rfl, rfl, HI0.out⟩
  case round =>
    clear HI0 k0 k1 k2
    obtain ⟨k, hk, rfl, rfl, hbk⟩ := hrel
    have HBK := mkA hbk
    clear hbk
    by_cases hlt : k < o.length
    · have c0 : decide ((k : Int) < (o.length : Int)) = true := decide_eq_true (by omega)
      have c0' : decide (k < o.length) = true := decide_eq_true hlt
      obtain ⟨o1, o2, o3, o4⟩ := HO.out k hlt
      obtain ⟨ad, e1, x0⟩ := Kd.at_int (Kd.C_below LO.out HBK.out) (k : Int) (by omega) (by omega)
      simp only [Int.toNat_natCast] at x0
      cases e1
      obtain ⟨j, hj⟩ : ∃ j : Nat, rd o (k : Int) = (j : Int) := ⟨_, (Int.toNat_of_nonneg o1).symm⟩
      rw [hj] at x0 o2 o3 o4
      simp only [Int.toNat_natCast] at o4
      have hj5 : j < 5 := by omega
      clear hj o1
      obtain ⟨k0, k1, k2⟩ := box3 (blk_below HK.out HBK.out)
      have hk0 : (0 : Int) ≤ (k : Int) := by omega
      have hk1 : (k : Int) < (o.length : Int) := by omega
      have HIN := mkA (show pr_In.f (j : Int) 0 ((l2.length : Int) - 1) = some true by unfold pr_In.f; rw [if_pos (by omega)]; simp; omega)
      have hw1 : IntKind.i64.wrap ((l2.length : Int) - 1) = (l2.length : Int) - 1 := by rw [i64_w]; unfold wrap64; omega
      have O4 := mkA o4
      clear o4
      have HQ := mkA (fun (m : Nat) => Calls.quiet_of (w := wr) (n := m) ((pr_In.calls (j : Int) 0 ((l2.length : Int) - 1) true (wr.drewN m) HIN.out).mono (fun e w9 hw9 => (by obtain ⟨q1, m1, q2⟩ := hw9; exact ⟨q1, m1, q2⟩ : e = .returned (.bool true) ∧ ∃ m1, w9 = (wr.drewN m).drewN m1))))
      go_wp2
      by_cases hk9 : 0 < k
      · have c1 : decide ((0 : Int) < (k : Int)) = true := decide_eq_true (by omega)
        have c1' : decide (0 < k) = true := decide_eq_true hk9
        obtain ⟨ad2, e2, x1⟩ := Kd.at_int (Kd.C_below LO.out HBK.out) ((k : Int) - 1) (by omega) (by omega)
        cases e2
        have x2 : wr.cell? (ad.add (k - 1)) = some (.int .i64 (rd o ((k : Int) - 1))) := by rw [show k - 1 = ((k : Int) - 1).toNat by omega]; exact x1
        have hk2 : (0 : Int) ≤ (k : Int) - 1 := by omega
        have hk4 : (1 : Int) ≤ (k : Int) := by omega
        have hk5 : 1 ≤ k := hk9
        have hk6 : (k : Int) - 1 ≤ o.length := by omega
        have hk7 : (k : Int) < (o.length : Int) + 1 := by omega
        have hk3 : (k : Int) - 1 < (o.length : Int) := by omega
        have c2_ : decide ((j : Int) ≤ rd o ((k : Int) - 1)) = false := decide_eq_false (by have := o3 hk9; omega)
        have hw2 : IntKind.i64.wrap ((k : Int) - 1) = (k : Int) - 1 := by rw [i64_w]; unfold wrap64; omega
        go_quiet ((go_at_call 59; exact HQ.out _))
        go_wp2
        go_roundw
        case rel => exact ⟨k + 1, by omega, by go_num, by rw [O4.out], z11 HBK.out _⟩
        case measure => simp [intOf]; omega
      · have c1 : decide ((0 : Int) < (k : Int)) = false := decide_eq_false (by omega)
        have c1' : decide (0 < k) = false := decide_eq_false hk9
        go_quiet ((go_at_call 59; exact HQ.out _))
        go_wp2
        go_roundw
        case rel => exact ⟨k + 1, by omega, by go_num, by rw [O4.out], z11 HBK.out _⟩
        case measure => simp [intOf]; omega
    · have c0 : decide ((k : Int) < (o.length : Int)) = false := decide_eq_false (by omega)
      have c0' : decide (k < o.length) = false := decide_eq_false hlt
      obtain rfl : k = o.length := by omega
      clear HO hlt
      replace HB := mkA (z16 HB.out HBK.out)
      replace HK := mkA (blk_below HK.out HBK.out)
      replace LO := mkA (Kd.C_below LO.out HBK.out)
      clear HBK
      obtain ⟨k0, k1, k2⟩ := box3 HK.out
      go_wp2_with fail
      refine (H62.out _ HB.out).mono ?_
      rintro e w5 ⟨rfl, hb⟩
      replace HB := mkA (z16 HB.out hb)
      replace HK := mkA (blk_below HK.out hb)
      replace LO := mkA (Kd.C_below LO.out hb)
      clear hb k0 k1 k2
      obtain ⟨k0, k1, k2⟩ := box3 HK.out
      go_wp2_with fail
      have HBL := mkA (show Below w5.heap.size w5 w5.drew from z12 (Below.refl _ _))
      have HKS := mkA (fun (W' : World) (hb : Below w5.heap.size w5 W') => box3 (blk_below HK.out hb))
      go_region_held3 (fun w' => w'.cell? ⟨w.heap.size, 0, none⟩ = some (.int .i64 n) ∧ w'.cell? ⟨w.heap.size, 1, none⟩ = some (.slice A1 l1.length c1) ∧ w'.cell? ⟨w.heap.size, 2, none⟩ = some (.slice A2 l2.length c2)) (exact HKS.out _ HBL.out) (first | ((with_reducible refine (H62.out _ (z16 HB.out HBL.out)).mono ?_); rintro e w6 ⟨rfl, hb⟩; replace HBL := mkA (z16 HBL.out hb); clear hb) | ((rw [HZ1.out]; (with_reducible refine (some_calls n A1 _ c1 A2 c2 l2 z1 _ (Kd.C_below HR2.out (z16 HB.out HBL.out)) hc2 q2 HZ0.out.1).mono ?_)); rintro e w7 ⟨v, rfl, hl, hb⟩; obtain ⟨PV, dV, rfl, qV, RV⟩ := Kd.R_reads hl; replace HBL := mkA (z16 HBL.out hb); have HZ := mkA (slate_ok n A1 l1.length c1 l1 PV _ dV _ w7 (Kd.C_below HR1.out (z16 HB.out HBL.out)) hc1 RV qV q1 (by have := someTo_len l2 z1 l2.length; unfold someL; omega)); rw [E1.out, E2.out] at HZ; clear hb hl RV qV) | ((with_reducible refine at_c w7 ?_); (refine (HZ.out _ (Below.refl _ _)).mono ?_); rintro e w8 ⟨B1, d1, B2, d2, rfl, h1, h2, h3, h4, hb⟩; replace HBL := mkA (z16 HBL.out hb); have P1 := mkA h1; have P2 := mkA h3; clear h1 h3 hb HZ) | ((with_reducible refine (soap_Bounds.calls n B1 d1 X1 B2 d2 Y1 _ _ _ P1.out h2 P2.out h4 F22.out).mono ?_); rintro e w9 ⟨vb, rfl, hl, hb⟩; replace HBL := mkA (z16 HBL.out hb); clear hl hb P1 P2 h2 h4) | fail)
      replace HB := mkA (z16 HB.out HBL.out)
      replace HK := mkA (blk_below HK.out HBL.out)
      replace LO := mkA (Kd.C_below LO.out HBL.out)
      clear HBL HKS k0 k1 k2
      clear F22 E2 HZ1
      obtain ⟨k0, k1, k2⟩ := box3 HK.out
      go_wp2_with fail
      have HBL := mkA (show Below w9.heap.size w9 w9.drew from z12 (Below.refl _ _))
      have HKS := mkA (fun (W' : World) (hb : Below w9.heap.size w9 W') => box3 (blk_below HK.out hb))
      go_region_held3 (fun w' => w'.cell? ⟨w.heap.size, 0, none⟩ = some (.int .i64 n) ∧ w'.cell? ⟨w.heap.size, 1, none⟩ = some (.slice A1 l1.length c1) ∧ w'.cell? ⟨w.heap.size, 2, none⟩ = some (.slice A2 l2.length c2)) (exact HKS.out _ HBL.out) (first | ((with_reducible refine (H62.out _ (z16 HB.out HBL.out)).mono ?_); rintro e w6 ⟨rfl, hb⟩; replace HBL := mkA (z16 HBL.out hb); clear hb) | ((rw [HY.out, HZ2.out]; (with_reducible refine (some_calls n A1 _ c1 A2 c2 l2 z2 _ (Kd.C_below HR2.out (z16 HB.out HBL.out)) hc2 q2 HZ0.out.2).mono ?_)); rintro e w7 ⟨v, rfl, hl, hb⟩; obtain ⟨PV, dV, rfl, qV, RV⟩ := Kd.R_reads hl; replace HBL := mkA (z16 HBL.out hb); have HZ := mkA (slate_ok n A1 l1.length c1 l1 PV _ dV _ w7 (Kd.C_below HR1.out (z16 HB.out HBL.out)) hc1 RV qV q1 (by have := someTo_len l2 z2 l2.length; unfold someL; omega)); rw [E1.out, E3.out] at HZ; clear hb hl RV qV) | ((with_reducible refine at_c w7 ?_); (refine (HZ.out _ (Below.refl _ _)).mono ?_); rintro e w8 ⟨B1, d1, B2, d2, rfl, h1, h2, h3, h4, hb⟩; replace HBL := mkA (z16 HBL.out hb); have P1 := mkA h1; have P2 := mkA h3; clear h1 h3 hb HZ) | ((with_reducible refine (soap_Bounds.calls n B1 d1 X1 B2 d2 Y2 _ _ _ P1.out h2 P2.out h4 F23.out).mono ?_); rintro e w9 ⟨vb, rfl, hl, hb⟩; replace HBL := mkA (z16 HBL.out hb); clear hl hb P1 P2 h2 h4) | fail)
      replace HB := mkA (z16 HB.out HBL.out)
      replace HK := mkA (blk_below HK.out HBL.out)
      replace LO := mkA (Kd.C_below LO.out HBL.out)
      clear HBL HKS k0 k1 k2 F23 E3 HZ2 HX H62
      rcases HG.out with h9 | h9
      · have F63b := mkA (F63.out h9)
        subst h9
        go_wp2_with fail
        refine (pr_Bits.calls 100 (y : Int) By _ F58.out).mono ?_
        rintro e w10 ⟨vB, rfl, hl, hb⟩
        replace HB := mkA (z16 HB.out hb)
        replace HK := mkA (blk_below HK.out hb)
        replace LO := mkA (Kd.C_below LO.out hb)
        clear hb
        have LB := mkA hl
        clear hl
        obtain ⟨PB, dB, rfl, qB, RB⟩ := Kd.R_reads LB.out
        clear LB
        have LB := mkA RB
        clear RB
        go_wp2_with fail
        refine (pr_Shorter.calls 100 PB dB By PO dO o false _ LB.out qB LO.out qO F63b.out).mono ?_
        rintro e w11 ⟨rfl, ⟨mm, hw⟩⟩
        have hb : Below w10.heap.size w10 w11 := by rw [hw]; exact z11 (Below.refl _ _) _
        clear hw
        replace HB := mkA (z16 HB.out hb)
        replace HK := mkA (blk_below HK.out hb)
        replace LO := mkA (Kd.C_below LO.out hb)
        replace LB := mkA (Kd.C_below LB.out hb)
        clear hb
        go_wp2_with fail
        refine (pl_awake.calls true _ rfl).mono ?_
        rintro e w12 ⟨rfl, hb⟩
        replace HB := mkA (z16 HB.out hb)
        replace HK := mkA (blk_below HK.out hb)
        replace LO := mkA (Kd.C_below LO.out hb)
        replace LB := mkA (Kd.C_below LB.out hb)
        clear hb
        go_wp2
        go_ret
        exact ⟨rfl, HB.out⟩
      · subst h9
        go_wp2_with fail
        refine (pl_awake.calls true _ rfl).mono ?_
        rintro e w10 ⟨rfl, hb⟩
        replace HB := mkA (z16 HB.out hb)
        replace HK := mkA (blk_below HK.out hb)
        replace LO := mkA (Kd.C_below LO.out hb)
        clear hb
        go_wp2
        go_ret
        exact ⟨rfl, HB.out⟩
end
end Go.Proofs.Ytncaadckehikpaa.Q
namespace Go.Proofs.Ytncaadckehikpaa.Q
open Go.RowKit Go.Proofs.YtncaadckehikpaaW.PrintWords Go.Proofs.YtncaadckehikpaaW.PrintLast Go.Proofs.YtncaadckehikpaaW.PrintMore
set_option linter.unusedVariables false
set_option linter.unusedSimpArgs false
theorem set_all : ∀ x : Fin 32, ∀ k : Fin 6, k.val < (bitsL x.val).length → 0 ≤ rd (bitsL x.val) ((k.val : Nat) : Int) ∧ (0 < k.val → rd (bitsL x.val) (((k.val : Nat) : Int) - 1) < rd (bitsL x.val) ((k.val : Nat) : Int)) ∧
    bits .or .i64 ((mskTo (bitsL x.val) k.val : Nat) : Int) (wrap64 (2 ^ (rd (bitsL x.val) ((k.val : Nat) : Int)).toNat)) = ((mskTo (bitsL x.val) (k.val + 1) : Nat) : Int) := by decide +kernel
theorem set_lt_all : ∀ len : Fin 6, ∀ x : Fin 32, x.val < 2 ^ len.val → ∀ k : Fin 6, k.val < (bitsL x.val).length → rd (bitsL x.val) ((k.val : Nat) : Int) < ((len.val : Nat) : Int) := by decide +kernel
theorem msk_set_all : ∀ x : Fin 32, mskTo (bitsL x.val) (bitsL x.val).length = x.val := by decide +kernel
theorem and_full_all : ∀ len : Fin 6, ∀ b : Fin 256, bits .and .i64 ((b.val : Nat) : Int) ((2 ^ len.val - 1 : Nat) : Int) = ((b.val % 2 ^ len.val : Nat) : Int) := by decide +kernel
theorem not_bits_all : ∀ len : Fin 6, ∀ x : Fin 32, x.val < 2 ^ len.val → ∀ i : Fin 6, i.val < len.val → bitN (2 ^ len.val - 1 - x.val) i.val = !bitN x.val i.val := by decide +kernel
/-- A saying that is right. -/
def okS (v : List Int) (e : S124) : Bool := decide (e.f1.f0 ≤ rd v e.f0) && decide (rd v e.f0 ≤ e.f1.f1)
theorem right_ok (L : List S124) (v out : List Int) : rightB L v out = true ↔ ∀ i : Nat, (h : i < L.length) → (hasB out (i : Int) || okS v L[i]) = true := by
  unfold rightB
  rw [decide_eq_true_eq]
  refine forall_congr' (fun i => forall_congr' (fun h => ?_))
  unfold rightAt okS
  rw [rd124 L i h]
theorem right_all (L : List S124) (v : List Int) : rightB L v [] = true ↔ ∀ e ∈ L, okS v e = true := by
  rw [right_ok]
  constructor
  · intro h e he
    obtain ⟨i, hi, rfl⟩ := List.getElem_of_mem he
    have := h i hi
    simpa [hasB] using this
  · intro h i hi
    simp only [hasB, List.any_nil, Bool.false_or]
    exact h _ (List.getElem_mem hi)
theorem mem_someTo (l : List S94) (b : Nat) (e : S94) : ∀ k : Nat, e ∈ someTo l b k ↔ ∃ j, j < k ∧ bitN b j = true ∧ e = rd_T94 l (j : Int)
  | 0 => by simp [someTo]
  | k + 1 => by
    rw [someTo]
    have ih := mem_someTo l b e k
    by_cases h : bitN b k = true
    · rw [if_pos h, List.mem_append, ih, List.mem_singleton]
      constructor
      · rintro (⟨j, h1, h2, h3⟩ | h4)
        · exact ⟨j, by omega, h2, h3⟩
        · exact ⟨k, by omega, h, h4⟩
      · rintro ⟨j, h1, h2, h3⟩
        by_cases c : j = k
        · subst c; exact .inr h3
        · exact .inl ⟨j, by omega, h2, h3⟩
    · rw [if_neg h, ih]
      constructor
      · rintro ⟨j, h1, h2, h3⟩
        exact ⟨j, by omega, h2, h3⟩
      · rintro ⟨j, h1, h2, h3⟩
        by_cases c : j = k
        · subst c; exact absurd h2 h
        · exact ⟨j, by omega, h2, h3⟩
theorem some_sub {l : List S94} {b : Nat} {e : S94} (h : e ∈ someL l b) : e ∈ l := by
  obtain ⟨j, h1, h2, h3⟩ := (mem_someTo l b e l.length).1 h
  rw [h3, rd94 l j h1]
  exact List.getElem_mem h1
/-- To leave sayings out is to have the others alone. -/
theorem some_poss (L1 : List S122) (l2 : List S94) (hl : l2.length ≤ 5) (x : Nat) (hx : x < 2 ^ l2.length) : possB L1 ((someL l2 (2 ^ l2.length - 1 - x)).map c94) [] = possB L1 (l2.map c94) (bitsL x) := by
  have h32 : 2 ^ l2.length ≤ 32 := pw32 hl
  have key : ∀ v, rightB ((someL l2 (2 ^ l2.length - 1 - x)).map c94) v [] = rightB (l2.map c94) v (bitsL x) := fun v => by
    rw [Bool.eq_iff_iff, right_all, right_ok]
    constructor
    · intro h i hi
      rw [List.length_map] at hi
      rw [has_bits_all ⟨x, by omega⟩ ⟨i, by omega⟩]
      have hb := not_bits_all ⟨l2.length, by omega⟩ ⟨x, by omega⟩ hx ⟨i, by omega⟩ hi
      simp only [] at hb
      cases hx2 : bitN x i with
      | true => rfl
      | false =>
        rw [hx2] at hb
        rw [Bool.false_or]
        refine h _ (List.mem_map.2 ⟨l2[i], ?_, by rw [List.getElem_map]⟩)
        exact (mem_someTo l2 _ _ l2.length).2 ⟨i, hi, hb, by rw [rd94 l2 i hi]⟩
    · intro h e he
      obtain ⟨e2, he2, rfl⟩ := List.mem_map.1 he
      obtain ⟨j, h1, h2, h3⟩ := (mem_someTo l2 _ e2 l2.length).1 he2
      have hb := not_bits_all ⟨l2.length, by omega⟩ ⟨x, by omega⟩ hx ⟨j, by omega⟩ h1
      simp only [] at hb
      rw [h2] at hb
      have := h j (by rw [List.length_map]; exact h1)
      rw [has_bits_all ⟨x, by omega⟩ ⟨j, by omega⟩, List.getElem_map] at this
      rw [h3, rd94 l2 j h1]
      cases hx2 : bitN x j with
      | true => rw [hx2] at hb; cases hb
      | false => rw [hx2] at this; simpa using this
  unfold possB anyL
  simp only [key]
theorem checkS_some {n : Int} {L1 : List S122} {l2 : List S94} (h : checkS n L1 (l2.map c94) = 0) (b : Nat) : checkS n L1 ((someL l2 b).map c94) = 0 := by
  obtain ⟨z0, z1, z2, z3, z4, z5, z6⟩ := z28 h
  rw [List.length_map] at z3
  have hl := someTo_len l2 b l2.length
  unfold checkS
  rw [if_neg (by rw [List.length_map]; unfold someL; omega), if_neg, if_neg (by omega)]
  rintro (c | c | c)
  · omega
  · rw [z4] at c
    cases c
  · rw [show ((someL l2 b).map c94).all (sayingB n) = true from List.all_eq_true.2 (fun e he => by
      obtain ⟨e2, he2, rfl⟩ := List.mem_map.1 he
      exact List.all_eq_true.1 z5 _ (List.mem_map.2 ⟨e2, some_sub he2, rfl⟩))] at c
    cases c
theorem bounds_at {n : Int} {L1 : List S122} {L2 : List S124} (h : checkS n L1 L2 = 0) : ∃ bs g, soap_Bounds.f n L1 L2 = some (bs, g) ∧ (g = 0 ∨ g = 11) ∧ (g = 0 ↔ possB L1 L2 [] = true) := by
  by_cases hp : possB L1 L2 [] = true
  · rw [soap_Bounds.f, askErr_zero h ((poss_truths _ _).1 hp)]
    exact ⟨_, _, rfl, .inl rfl, ⟨fun _ => hp, fun _ => rfl⟩⟩
  · have : truthsL L1 L2 = [] := by
      by_cases e : truthsL L1 L2 = []
      · exact e
      · exact absurd ((poss_truths _ _).2 e) hp
    rw [soap_Bounds.f, askErr_false h this]
    exact ⟨_, _, rfl, .inr rfl, ⟨fun h => absurd h (by decide), fun h => absurd h hp⟩⟩
/-- The law's call. -/
theorem soapLeft_calls (n : Int) (A1 : Option Addr) (c1 : Nat) (l1 : List S91) (A2 : Option Addr) (c2 : Nat) (l2 : List S94) (b : Int) (hb0 : 0 ≤ b) (hb1 : b < 256) (w : World)
    (hr1 : Kd.C k91 w A1 l1.length l1) (hc1 : l1.length ≤ c1) (hr2 : Kd.C k94 w A2 l2.length l2) (hc2 : l2.length ≤ c2) :
    Calls Try.prog 16 #[.agg #[.int .i64 n, .slice A1 l1.length c1, .slice A2 l2.length c2], .int .u8 b] w fun e w' => e = .returned (.bool true) ∧ Below w.heap.size w w' := by
  have hrd := ready_split (n := n) (l1 := l1) (l2 := l2) 100 (by omega)
  by_cases hck : checkS n (l1.map c91) (l2.map c94) = 0
  · rw [decide_eq_true hck] at hrd
    obtain ⟨z0, z1, z2, z3, z4, z5⟩ := checkS_ent hck
    have h32 : 1 ≤ 2 ^ l2.length ∧ 2 ^ l2.length ≤ 32 := ⟨Nat.one_le_two_pow, pw32 z3⟩
    obtain ⟨x, x1, x2, x3, x4⟩ := leave_spec n l1 l2 hck
    have hy : b.toNat % 2 ^ l2.length < 2 ^ l2.length := Nat.mod_lt _ (by omega)
    have hand := and_full_all ⟨l2.length, by omega⟩ ⟨b.toNat, by omega⟩
    have hn1 := andNot_full_all ⟨l2.length, by omega⟩ ⟨x, by omega⟩ x1
    have hn2 := andNot_full_all ⟨l2.length, by omega⟩ ⟨b.toNat % 2 ^ l2.length, by omega⟩ hy
    simp only [Int.toNat_of_nonneg hb0] at hand hn1 hn2
    have hm := msk_set_all ⟨x, by omega⟩
    simp only [] at hm
    obtain ⟨bs, g, f1, f2, f3⟩ := bounds_at (checkS_some hck (2 ^ l2.length - 1 - x))
    obtain ⟨bs2, g2, f4, f5, f6⟩ := bounds_at (checkS_some hck (2 ^ l2.length - 1 - b.toNat % 2 ^ l2.length))
    have hg := f3.2 (by rw [some_poss _ l2 z3 x x1]; exact x3)
    subst hg
    refine left_yes n A1 c1 l1 A2 c2 l2 b w hr1 hc1 hr2 hc2 hb0 hb1 hrd (by omega) z3 _ _ (slate_ok n A1 _ c1 l1 A2 _ c2 l2 w hr1 hc1 hr2 hc2 (by omega) (by omega)) (bitsL x) (by rw [soap_Leave.f, if_pos hck, x2]; rfl) (bitsL_length x) (fun k hk => ?_)
      _ (Full_f n l1 l2 z3) (b.toNat % 2 ^ l2.length) hand (2 ^ l2.length - 1 - x) (2 ^ l2.length - 1 - b.toNat % 2 ^ l2.length) (by rw [hm]; exact hn1) hn2 (by omega) _ _ rfl rfl rfl bs f1 bs2 g2 f4 f5 _ (Bits_f 100 _ (by omega) (by omega)) (fun hg2 => ?_)
    · have h6 := bitsL_length x
      obtain ⟨a1, a2, a3⟩ := set_all ⟨x, by omega⟩ ⟨k, by omega⟩ hk
      exact ⟨a1, set_lt_all ⟨l2.length, by omega⟩ ⟨x, by omega⟩ x1 ⟨k, by omega⟩ hk, a2, a3⟩
    · have hp := f6.1 hg2
      rw [some_poss _ l2 z3 _ hy] at hp
      have := x4 _ hy hp
      rw [Shorter_f 100 l2.length _ x z3 hy x1 (by omega), decide_eq_false (by omega)]
  · rw [decide_eq_false hck] at hrd
    exact left_no n A1 c1 l1 A2 c2 l2 b w hr1 hc1 hr2 hc2 hrd
end Go.Proofs.Ytncaadckehikpaa.Q
namespace Go.Proofs.Ytncaadckehikpaa.Q
open Go.RowKit Go.Proofs.YtncaadckehikpaaW.PrintWords Go.Proofs.YtncaadckehikpaaW.PrintLast Go.Proofs.YtncaadckehikpaaW.PrintMore
open Go.ChangeShapes Go.WideShapes Go.Deep Go.Joins
set_option linter.unusedVariables false
set_option linter.unusedSimpArgs false
theorem list2 {α : Type} {l : List α} (h : l.length = 2) : ∃ a b, l = [a, b] := by
  match l, h with
  | [a, b], _ => exact ⟨a, b, rfl⟩
theorem list3 {α : Type} {l : List α} (h : l.length = 3) : ∃ a b c, l = [a, b, c] := by
  match l, h with
  | [a, b, c], _ => exact ⟨a, b, c, rfl⟩
theorem list4 {α : Type} {l : List α} (h : l.length = 4) : ∃ a b c d, l = [a, b, c, d] := by
  match l, h with
  | [a, b, c, d], _ => exact ⟨a, b, c, d, rfl⟩
section
variable {H : Type} {enc : TypeId × Value → H} {w : World} {base : Nat} {spare : Nat → Bool} {held : Bool}
theorem cells_3 : Try.prog.cellsOf 3 = 1 := by kernel_rfl
theorem cells_46 : Try.prog.cellsOf 46 = 2 := by kernel_rfl
theorem cells_91 : Try.prog.cellsOf 91 = 4 := by kernel_rfl
theorem cells_94 : Try.prog.cellsOf 94 = 3 := by kernel_rfl
theorem cells_25 : Try.prog.cellsOf 25 = 3 := by kernel_rfl
theorem one25 : oneCellFields Try.prog #[{ name := "Women", type := 3, offset := 0, embedded := false, tag := "", pkgPath := "", byteOffset := 0 }, { name := "Entries", type := 22, offset := 1, embedded := false, tag := "", pkgPath := "", byteOffset := 8 }, { name := "Sayings", type := 23, offset := 2, embedded := false, tag := "", pkgPath := "", byteOffset := 32 }] = true := by kernel_rfl
theorem u8_bd {a : Int} (h : (Lit.int .u8 a).wf = true) : 0 ≤ a ∧ a < 256 := by
  have h1 : IntKind.u8.min = 0 := by decide
  have h2 : IntKind.u8.max = 255 := by decide
  simp only [Lit.wf, Bool.and_eq_true, decide_eq_true_eq, h1, h2] at h
  omega
/-- A range. -/
theorem open_46 {fuel : Nat} {cs : List Value} {x : DataW H × List MemPlace} (h : DataW.trod enc Try.prog w base spare held fuel 46 cs = some x) :
    ∃ a b : Int, cs = [.int .i64 a, .int .i64 b] := by
  obtain ⟨xs, n, _, _, hl, hlen, hf⟩ := DataW.trod_struct Try.underlying46 h
  rw [cells_46] at hl
  obtain ⟨c0, c1, rfl⟩ := list2 hl
  obtain ⟨y0, y1, rfl⟩ := list2 hlen
  have h0 := hf 0 _ rfl
  change DataW.trod enc Try.prog w base spare held n 3 (([c0, c1].drop 0).take (Try.prog.cellsOf 3)) = some y0 at h0
  rw [cells_3] at h0
  have h1 := hf 1 _ rfl
  change DataW.trod enc Try.prog w base spare held n 3 (([c0, c1].drop 1).take (Try.prog.cellsOf 3)) = some y1 at h1
  rw [cells_3] at h1
  obtain ⟨a, ha, _, _⟩ := DataW.trod_int Try.underlying3 h0
  obtain ⟨b, hb, _, _⟩ := DataW.trod_int Try.underlying3 h1
  have ha' : [c0] = _ := ha
  have hb' : [c1] = _ := hb
  simp only [List.cons.injEq, and_true] at ha' hb'
  exact ⟨a, b, by rw [ha', hb']⟩
/-- An entry. -/
theorem open_91 {fuel : Nat} {cs : List Value} {x : DataW H × List MemPlace} (h : DataW.trod enc Try.prog w base spare held fuel 91 cs = some x) :
    ∃ e : S91, cs = [.int .i64 e.f0, .int .i64 e.f1, .int .i64 e.f2.f0, .int .i64 e.f2.f1] := by
  obtain ⟨xs, n, _, _, hl, hlen, hf⟩ := DataW.trod_struct Try.underlying91 h
  rw [cells_91] at hl
  obtain ⟨c0, c1, c2, c3, rfl⟩ := list4 hl
  obtain ⟨y0, y1, y2, rfl⟩ := list3 hlen
  have h0 := hf 0 _ rfl
  change DataW.trod enc Try.prog w base spare held n 3 (([c0, c1, c2, c3].drop 0).take (Try.prog.cellsOf 3)) = some y0 at h0
  rw [cells_3] at h0
  have h1 := hf 1 _ rfl
  change DataW.trod enc Try.prog w base spare held n 3 (([c0, c1, c2, c3].drop 1).take (Try.prog.cellsOf 3)) = some y1 at h1
  rw [cells_3] at h1
  have h2 := hf 2 _ rfl
  change DataW.trod enc Try.prog w base spare held n 46 (([c0, c1, c2, c3].drop 2).take (Try.prog.cellsOf 46)) = some y2 at h2
  rw [cells_46] at h2
  obtain ⟨a, ha, _, _⟩ := DataW.trod_int Try.underlying3 h0
  obtain ⟨b, hb, _, _⟩ := DataW.trod_int Try.underlying3 h1
  obtain ⟨c, d, hc⟩ := open_46 h2
  have ha' : [c0] = _ := ha
  have hb' : [c1] = _ := hb
  have hc' : [c2, c3] = _ := hc
  simp only [List.cons.injEq, and_true] at ha' hb' hc'
  exact ⟨⟨a, b, ⟨c, d⟩⟩, by rw [ha', hb', hc'.1, hc'.2]⟩
/-- A saying. -/
theorem open_94 {fuel : Nat} {cs : List Value} {x : DataW H × List MemPlace} (h : DataW.trod enc Try.prog w base spare held fuel 94 cs = some x) :
    ∃ e : S94, cs = [.int .i64 e.f0, .int .i64 e.f1.f0, .int .i64 e.f1.f1] := by
  obtain ⟨xs, n, _, _, hl, hlen, hf⟩ := DataW.trod_struct Try.underlying94 h
  rw [cells_94] at hl
  obtain ⟨c0, c1, c2, rfl⟩ := list3 hl
  obtain ⟨y0, y1, rfl⟩ := list2 hlen
  have h0 := hf 0 _ rfl
  change DataW.trod enc Try.prog w base spare held n 3 (([c0, c1, c2].drop 0).take (Try.prog.cellsOf 3)) = some y0 at h0
  rw [cells_3] at h0
  have h1 := hf 1 _ rfl
  change DataW.trod enc Try.prog w base spare held n 46 (([c0, c1, c2].drop 1).take (Try.prog.cellsOf 46)) = some y1 at h1
  rw [cells_46] at h1
  obtain ⟨a, ha, _, _⟩ := DataW.trod_int Try.underlying3 h0
  obtain ⟨c, d, hc⟩ := open_46 h1
  have ha' : [c0] = _ := ha
  have hc' : [c1, c2] = _ := hc
  simp only [List.cons.injEq, and_true] at ha' hc'
  exact ⟨⟨a, ⟨c, d⟩⟩, by rw [ha', hc'.1, hc'.2]⟩
/-- A row whose elements open. -/
theorem open_row {α : Type} (d : Kd α) {t e : TypeId} (ht : Try.prog.underlying t = some (.slice e)) (hC : Try.prog.cellsOf e = d.sz)
    (ho : ∀ (fuel : Nat) (cs : List Value) (x : DataW H × List MemPlace), DataW.trod enc Try.prog w base spare held fuel e cs = some x → ∃ y : α, d.K w y cs)
    {fuel : Nat} {v : Value} {x : DataW H × List MemPlace} (h : DataW.trod enc Try.prog w base spare held fuel t [v] = some x) :
    ∃ (A : Option Addr) (c : Nat) (l : List α), v = .slice A l.length c ∧ Kd.C d w A l.length l ∧ l.length ≤ c := by
  rcases open_slice ht h with ⟨hcs, _⟩ | ⟨a, len, cap, m, n, D, Pl, hcs, hb, hl, hm, hmm, hx, hi⟩
  · simp only [List.cons.injEq, and_true] at hcs
    subst hcs
    exact ⟨none, 0, [], rfl, ⟨rfl, by simp, fun q => absurd q (by simp)⟩, by simp⟩
  · simp only [List.cons.injEq, and_true] at hcs
    subst hcs
    have hlm : len ≤ m := by rw [hmm]; split <;> omega
    have hcell : ∀ i : Nat, i < len → ∃ y : α, ∃ cs', w.cells? base (a.add (i * d.sz)) d.sz = some cs' ∧ d.K w y cs' := fun i hil => by
      obtain ⟨cs', h1, h2⟩ := hi i (by omega)
      rw [hC] at h1
      obtain ⟨y, hy⟩ := ho _ _ _ h2
      exact ⟨y, cs', h1, hy⟩
    have hsel : ∀ j, j ≤ len → ∃ l : List α, l.length = j ∧ ∀ (i : Nat) (y : α), l[i]? = some y → ∃ cs', w.cells? base (a.add (i * d.sz)) d.sz = some cs' ∧ d.K w y cs' := by
      intro j
      induction j with
      | zero => exact fun _ => ⟨[], rfl, fun i y hy => by simp at hy⟩
      | succ j ih =>
        intro hj
        obtain ⟨l, hll, hlr⟩ := ih (by omega)
        obtain ⟨y, cs', h1, h2⟩ := hcell j (by omega)
        refine ⟨l ++ [y], by simp [hll], fun i z hz => ?_⟩
        by_cases hij : i < j
        · rw [List.getElem?_append_left (by omega)] at hz
          exact hlr i z hz
        · rw [List.getElem?_append_right (by omega)] at hz
          have hi0 : i = j := by
            by_cases q : i - l.length = 0
            · omega
            · obtain ⟨q', hq'⟩ : ∃ q', i - l.length = q' + 1 := ⟨i - l.length - 1, by omega⟩
              rw [hq'] at hz
              simp at hz
          subst hi0
          rw [show i - l.length = 0 by omega] at hz
          simp only [List.getElem?_cons_zero, Option.some.injEq] at hz
          subst hz
          exact ⟨cs', h1, h2⟩
    obtain ⟨l, hll, hlr⟩ := hsel len (Nat.le_refl _)
    refine ⟨some a, cap, l, by rw [hll], ⟨rfl, ?_, fun _ => ⟨a, rfl, fun j p hp => ?_⟩⟩, by omega⟩
    · have : cap ≤ 9223372036854775807 := hm
      omega
    · obtain ⟨cs', h1, h2⟩ := hlr j p hp
      obtain ⟨_, hcl, hat⟩ := World.cells?_some h1
      refine ⟨cs', hcl, h2, fun i u hu => ?_⟩
      have hil : i < d.sz := by rw [← hcl]; exact (List.getElem?_eq_some_iff.1 hu).1
      rw [← Go.Deep.add_add, hat i hil, hu]
set_option maxRecDepth 100000 in
theorem open_slate {r : Reach} {b0 : Nat} {v : Value} {d : DataW H} {p : List MemPlace} (hv : Value.okWide Try.prog w r b0 25 v) (h : DataW.Trod enc Try.prog w base spare held 25 v d p) :
    ∃ (n : Int) (A1 : Option Addr) (c1 : Nat) (l1 : List S91) (A2 : Option Addr) (c2 : Nat) (l2 : List S94), v = .agg #[.int .i64 n, .slice A1 l1.length c1, .slice A2 l2.length c2] ∧
      Kd.C k91 w A1 l1.length l1 ∧ l1.length ≤ c1 ∧ Kd.C k94 w A2 l2.length l2 ∧ l2.length ≤ c2 ∧ (Lit.int .i64 n).wf = true := by
  obtain ⟨v0, v1, v2, y0, y1, y2, n, rfl, _, _, h0, h1, h2⟩ := open_agg3 Try.underlying25 one25 cells_25 hv h
  obtain ⟨a, ha, _, hwf⟩ := DataW.trod_int Try.underlying3 h0
  simp only [List.cons.injEq, and_true] at ha
  subst ha
  obtain ⟨A1, c1, l1, rfl, q1, q2⟩ := open_row k91 Try.underlying22 cells_91 (fun fuel cs x hx => by
    obtain ⟨e, rfl⟩ := open_91 hx
    exact ⟨e, k91_mk w e⟩) h1
  obtain ⟨A2, c2, l2, rfl, q3, q4⟩ := open_row k94 Try.underlying23 cells_94 (fun fuel cs x hx => by
    obtain ⟨e, rfl⟩ := open_94 hx
    exact ⟨e, k94_mk w e⟩) h2
  exact ⟨a, A1, c1, l1, A2, c2, l2, rfl, q1, q2, q3, q4, hwf⟩
end
end Go.Proofs.Ytncaadckehikpaa.Q
namespace Go.Proofs.Ytncaadckehikpaa.soapLeft
open Go.ChangeShapes Go.WideShapes Go.ChangeAt Go.RowKit
set_option linter.unusedVariables false
theorem own : ownKnob Try.prog.godebug = none := by kernel_rfl
theorem laidOut : laidOutB Try.prog = true := by kernel_rfl
set_option maxRecDepth 100000 in
theorem lifted (os : Os) (started : os.Started) (H : Type) (enc : TypeId × Value → H) :
    ReturnsInHanded {} Try.checked os 16 .any (Rows.soapLeftSpec.pre6 enc Try.prog Try.f16 Rows.soapLeftRow.domain false) (Rows.soapLeftSpec.post enc Try.prog Try.f16 false true false false) := by
  refine returnsInHanded_of_change_sized (C := Try.checked) own started (by kernel_rfl) Try.func16
    (ChangeSpec.witness6 (enc := enc) (C := Try.checked) false ⟨#[], #[.agg #[.int .i64 0, .slice none 0 0, .slice none 0 0], .int .u8 0], []⟩ 8 (by kernel_rfl) (by kernel_rfl) (by kernel_rfl) (by kernel_rfl)) ?_
  intro W base args ds gs before hval0 hW hcnd hsz0 _
  have hval : ∀ (j : Nat) t v, Try.f16.params[j]? = some t → args[j]? = some v → Value.okWide Try.prog W .any base t v := hval0
  have hW' := hW
  obtain ⟨p, q, hA0, hV, rfl, hfz, hnd⟩ := hW
  have hA : DataW.TrodAll enc Try.prog W 0 (fun _ => true) true Try.f16.params.toList args.toList ds p := hA0
  rw [Try.params16] at hA hval
  obtain ⟨v0, vs0, d0, ds0, p0, q0, hargs, rfl, rfl, h0, r0⟩ := trodAll_cons hA
  obtain ⟨v1, vs1, d1, ds1, p1, q1, rfl, rfl, rfl, h1, r1⟩ := trodAll_cons r0
  obtain ⟨rfl, rfl, rfl⟩ := trodAll_nil r1
  obtain rfl : args = #[v0, v1] := by cases args; simp_all
  obtain ⟨rfl, rfl⟩ := trodVars_none hV
  have k0 := h0
  have lt0 : ∀ x ∈ p0, x.block < W.heap.size := by obtain ⟨m, hm⟩ := k0; exact DataW.trod_lt m _ _ _ hm
  obtain ⟨n0, A0a, c0a, l0a, A0b, c0b, l0b, rfl, hr0a, hc0a, hr0b, hc0b, hwf0⟩ := Q.open_slate (hval 0 25 v0 rfl rfl) h0
  obtain ⟨a1, rfl, rfl, rfl, w1⟩ := open_int Try.underlying5 (hval 1 5 v1 rfl rfl) h1
  clear hA0 hval0 hsz0
  refine (Q.soapLeft_calls n0 A0a c0a l0a A0b c0b l0b a1 (Q.u8_bd w1).1 (Q.u8_bd w1).2 W hr0a hc0a hr0b hc0b).mono fun e W' ⟨he, bel⟩ => ?_
  subst he
  exact ⟨_, rfl, _, _, _, [], _, [], hW', trodAll_mk1 (shut_bool Try.underlying4 _), (trodAll_cons_mk (Below.trod laidOut (by kernel_rfl) (of_decide_eq_true (by kernel_rfl)) k0 bel lt0) (trodAll_cons_mk (shut_int Try.underlying5 w1) trodAll_mk0)), rfl, bel.frame _, fun h => by cases h⟩
theorem over : Rows.soapLeftRow.holds Try.pinned (OpenSpec.ofChange Rows.soapLeftSpec) :=
  OpenClaim.holds_of_wide 16 Try.f16 rfl rfl rfl rfl rfl rfl rfl ⟨rfl, rfl, rfl, rfl, rfl⟩ rfl rfl rfl rfl rfl (by kernel_rfl) Try.func16 (by kernel_rfl)
    (of_decide_eq_true (by kernel_rfl)) (by unfold Func.isWrapper; first | (rw [if_pos (by decide +kernel)]; kernel_rfl) | (rw [if_neg (by decide +kernel)]; exact ⟨rfl, rfl⟩))
    (fun os started H enc _ => lifted os started H enc)
end Go.Proofs.Ytncaadckehikpaa.soapLeft
namespace Go.Proofs.Ytncaadckehikpaa
/-- The statement. -/
theorem soapLeft_holds : Rows.SoapLeftSaid := soapLeft.over
end Go.Proofs.Ytncaadckehikpaa
