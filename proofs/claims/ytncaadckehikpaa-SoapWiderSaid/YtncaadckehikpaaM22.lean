/- A part of the proof: contracts of functions and plain facts (HCloser, Q11, HRef2, HRef3, Q1, HPossible, HFirst). No condition. -/
import Derived.Test.YtncaadckehikpaaM15
import Derived.Test.YtncaadckehikpaaM20
import Derived.Test.YtncaadckehikpaaM21
import Derived.Test.YtncaadckehikpaaM3
import Derived.Test.YtncaadckehikpaaM13
import Derived.Test.YtncaadckehikpaaM8
import Derived.Test.YtncaadckehikpaaM19
import Derived.Test.YtncaadckehikpaaM16
namespace Go.Proofs.Ytncaadckehikpaa.Q
open Go.RowKit Go.Proofs.YtncaadckehikpaaW.PrintWords Go.Proofs.YtncaadckehikpaaW.PrintLast Go.Proofs.YtncaadckehikpaaW.PrintMore
set_option linter.unusedVariables false
set_option linter.unusedSimpArgs false
set_option maxHeartbeats 4000000 in
set_option maxRecDepth 100000 in
theorem closer_calls (n : Int) (A1 : Option Addr) (m1 c1 : Nat) (A2 : Option Addr) (m2 c2 : Nat) (n' : Int) (A3 : Option Addr) (m3 c3 : Nat) (A4 : Option Addr) (m4 c4 : Nat) (X1 : List S122) (X2 : List S124) (S1 : List S122) (S2 : List S124) (w : World)
    (hx : SlateOk w (.agg #[.int .i64 n, .slice A1 m1 c1, .slice A2 m2 c2]) n X1 X2) (hs : SlateOk w (.agg #[.int .i64 n', .slice A3 m3 c3, .slice A4 m4 c4]) n' S1 S2)
    (bx bs : List S44) (f1 : soap_Bounds.f n X1 X2 = some (bx, 0)) (f2 : soap_Bounds.f n' S1 S2 = some (bs, 0)) (f3 : pl_inside.f 100 bx bs = some true)
    (ux us : List Int) (f4 : soap_Owes.f 40 n X1 X2 = some (ux, 0)) (f5 : soap_Owes.f 40 n' S1 S2 = some (us, 0)) (f6 : pl_kept.f 100 us ux = some true)
    (p0 p1 q0 q1 : Int) (f7 : soap_Fewest.f n X1 X2 = some (p0, p1, 0)) (f8 : soap_Fewest.f n' S1 S2 = some (q0, q1, 0)) (f9 : q0 ≤ p0) (f10 : p1 ≤ q1) :
    Calls Try.prog 60 #[.agg #[.int .i64 n, .slice A1 m1 c1, .slice A2 m2 c2], .agg #[.int .i64 n', .slice A3 m3 c3, .slice A4 m4 c4]] w fun e w' => e = .returned (.bool true) ∧ Below w.heap.size w w' := by
  have hu25 := Try.underlying25
  have hu44 := Try.underlying44
  have g1 : decide (q0 ≤ p0) = true := decide_eq_true f9
  have g2 : decide (p1 ≤ q1) = true := decide_eq_true f10
  clear f9 f10
  have HX := mkA hx
  have HS := mkA hs
  clear hx hs
  have F1 := mkA f1
  have F2 := mkA f2
  have F3 := mkA f3
  have F4 := mkA f4
  have F5 := mkA f5
  have F6 := mkA f6
  have F7 := mkA f7
  have F8 := mkA f8
  clear f1 f2 f3 f4 f5 f6 f7 f8
  go_enter Try.func60, Try.ntmps60
  have HB := mkA (z10 (z10 (Below.refl w.heap.size w) (.cells #[.int .i64 n, .slice A1 m1 c1, .slice A2 m2 c2] 25)) (.cells #[.int .i64 n', .slice A3 m3 c3, .slice A4 m4 c4] 25))
  have HK := mkA (blk_below (z19 w (.cells #[.int .i64 n, .slice A1 m1 c1, .slice A2 m2 c2] 25)) (z10 (Below.refl _ _) (.cells #[.int .i64 n', .slice A3 m3 c3, .slice A4 m4 c4] 25)))
  have HM := mkA (z19 (w.alloc (.cells #[.int .i64 n, .slice A1 m1 c1, .slice A2 m2 c2] 25)) (.cells #[.int .i64 n', .slice A3 m3 c3, .slice A4 m4 c4] 25))
  rw [show (w.alloc (.cells #[.int .i64 n, .slice A1 m1 c1, .slice A2 m2 c2] 25)).heap.size = w.heap.size + 1 from Array.size_push _] at HM
  go_wp2_with fail
  refine (HX.out _ HB.out).mono ?_
  rintro e w1 ⟨B1, d1, B2, d2, rfl, h1, h2, h3, h4, hb⟩
  replace HB := mkA (z16 HB.out hb)
  replace HK := mkA (blk_below HK.out hb)
  replace HM := mkA (blk_below HM.out hb)
  clear hb
  have P1 := mkA h1
  clear h1
  have P2 := mkA h3
  clear h3
  go_wp2_with fail
  refine (soap_Bounds.calls n B1 d1 X1 B2 d2 X2 _ _ _ P1.out h2 P2.out h4 F1.out).mono ?_
  rintro e w2 ⟨vx, rfl, hl, hb⟩
  replace HB := mkA (z16 HB.out hb)
  replace HK := mkA (blk_below HK.out hb)
  replace HM := mkA (blk_below HM.out hb)
  clear hb
  have LX := mkA hl
  clear hl
  clear P1 P2 h2 h4
  obtain ⟨k0, k1, k2⟩ := box3 HM.out
  go_wp2_with fail
  refine (HS.out _ HB.out).mono ?_
  rintro e w3 ⟨B1, d1, B2, d2, rfl, h1, h2, h3, h4, hb⟩
  replace HB := mkA (z16 HB.out hb)
  replace HK := mkA (blk_below HK.out hb)
  replace HM := mkA (blk_below HM.out hb)
  replace LX := mkA (Kd.R_below LX.out hb)
  clear hb
  have P1 := mkA h1
  clear h1
  have P2 := mkA h3
  clear h3
  clear k0 k1 k2
  go_wp2_with fail
  refine (soap_Bounds.calls n' B1 d1 S1 B2 d2 S2 _ _ _ P1.out h2 P2.out h4 F2.out).mono ?_
  rintro e w4 ⟨vs, rfl, hl, hb⟩
  replace HB := mkA (z16 HB.out hb)
  replace HK := mkA (blk_below HK.out hb)
  replace HM := mkA (blk_below HM.out hb)
  replace LX := mkA (Kd.R_below LX.out hb)
  clear hb
  have LS := mkA hl
  clear hl
  clear P1 P2 h2 h4
  obtain ⟨k0, k1, k2⟩ := box3 HK.out
  go_wp2_with fail
  refine (HX.out _ HB.out).mono ?_
  rintro e w5 ⟨B1, d1, B2, d2, rfl, h1, h2, h3, h4, hb⟩
  replace HB := mkA (z16 HB.out hb)
  replace HK := mkA (blk_below HK.out hb)
  replace HM := mkA (blk_below HM.out hb)
  replace LX := mkA (Kd.R_below LX.out hb)
  replace LS := mkA (Kd.R_below LS.out hb)
  clear hb
  have P1 := mkA h1
  clear h1
  have P2 := mkA h3
  clear h3
  clear k0 k1 k2
  go_wp2_with fail
  refine (soap_Owes.calls 40 n B1 d1 X1 B2 d2 X2 _ _ _ P1.out h2 P2.out h4 F4.out).mono ?_
  rintro e w6 ⟨ox, rfl, hl, hb⟩
  replace HB := mkA (z16 HB.out hb)
  replace HK := mkA (blk_below HK.out hb)
  replace HM := mkA (blk_below HM.out hb)
  replace LX := mkA (Kd.R_below LX.out hb)
  replace LS := mkA (Kd.R_below LS.out hb)
  clear hb
  have OX := mkA hl
  clear hl
  clear P1 P2 h2 h4
  obtain ⟨k0, k1, k2⟩ := box3 HM.out
  go_wp2_with fail
  refine (HS.out _ HB.out).mono ?_
  rintro e w7 ⟨B1, d1, B2, d2, rfl, h1, h2, h3, h4, hb⟩
  replace HB := mkA (z16 HB.out hb)
  replace HK := mkA (blk_below HK.out hb)
  replace HM := mkA (blk_below HM.out hb)
  replace LX := mkA (Kd.R_below LX.out hb)
  replace LS := mkA (Kd.R_below LS.out hb)
  replace OX := mkA (Kd.R_below OX.out hb)
  clear hb
  have P1 := mkA h1
  clear h1
  have P2 := mkA h3
  clear h3
  clear k0 k1 k2
  go_wp2_with fail
  refine (soap_Owes.calls 40 n' B1 d1 S1 B2 d2 S2 _ _ _ P1.out h2 P2.out h4 F5.out).mono ?_
  rintro e w8 ⟨os, rfl, hl, hb⟩
  replace HB := mkA (z16 HB.out hb)
  replace HK := mkA (blk_below HK.out hb)
  replace HM := mkA (blk_below HM.out hb)
  replace LX := mkA (Kd.R_below LX.out hb)
  replace LS := mkA (Kd.R_below LS.out hb)
  replace OX := mkA (Kd.R_below OX.out hb)
  clear hb
  have OS := mkA hl
  clear hl
  clear P1 P2 h2 h4
  obtain ⟨k0, k1, k2⟩ := box3 HK.out
  go_wp2_with fail
  refine (HX.out _ HB.out).mono ?_
  rintro e w9 ⟨B1, d1, B2, d2, rfl, h1, h2, h3, h4, hb⟩
  replace HB := mkA (z16 HB.out hb)
  replace HK := mkA (blk_below HK.out hb)
  replace HM := mkA (blk_below HM.out hb)
  replace LX := mkA (Kd.R_below LX.out hb)
  replace LS := mkA (Kd.R_below LS.out hb)
  replace OX := mkA (Kd.R_below OX.out hb)
  replace OS := mkA (Kd.R_below OS.out hb)
  clear hb
  have P1 := mkA h1
  clear h1
  have P2 := mkA h3
  clear h3
  clear k0 k1 k2
  go_wp2_with fail
  refine (soap_Fewest.calls n B1 d1 X1 B2 d2 X2 _ _ _ _ P1.out h2 P2.out h4 F7.out).mono ?_
  rintro e w10 ⟨rfl, hb⟩
  replace HB := mkA (z16 HB.out hb)
  replace HK := mkA (blk_below HK.out hb)
  replace HM := mkA (blk_below HM.out hb)
  replace LX := mkA (Kd.R_below LX.out hb)
  replace LS := mkA (Kd.R_below LS.out hb)
  replace OX := mkA (Kd.R_below OX.out hb)
  replace OS := mkA (Kd.R_below OS.out hb)
  clear hb
  clear P1 P2 h2 h4
  obtain ⟨k0, k1, k2⟩ := box3 (blk_below HM.out (z10 (Below.refl _ _) (.cells #[.int .i64 p0, .int .i64 p1] 44)))
  go_wp2_with fail
  refine (HS.out _ (z10 HB.out _)).mono ?_
  rintro e w11 ⟨B1, d1, B2, d2, rfl, h1, h2, h3, h4, hb⟩
  replace HB := mkA (z16 (z10 HB.out _) hb)
  replace HK := mkA (blk_below (blk_below HK.out (z10 (Below.refl _ _) _)) hb)
  replace HM := mkA (blk_below (blk_below HM.out (z10 (Below.refl _ _) _)) hb)
  replace LX := mkA (Kd.R_below (Kd.R_below LX.out (z10 (Below.refl _ _) _)) hb)
  replace LS := mkA (Kd.R_below (Kd.R_below LS.out (z10 (Below.refl _ _) _)) hb)
  replace OX := mkA (Kd.R_below (Kd.R_below OX.out (z10 (Below.refl _ _) _)) hb)
  replace OS := mkA (Kd.R_below (Kd.R_below OS.out (z10 (Below.refl _ _) _)) hb)
  have HP := mkA (blk_below (z19 w10 (.cells #[.int .i64 p0, .int .i64 p1] 44)) hb)
  clear hb
  have P1 := mkA h1
  clear h1
  have P2 := mkA h3
  clear h3
  clear k0 k1 k2
  go_wp2_with fail
  refine (soap_Fewest.calls n' B1 d1 S1 B2 d2 S2 _ _ _ _ P1.out h2 P2.out h4 F8.out).mono ?_
  rintro e w12 ⟨rfl, hb⟩
  replace HB := mkA (z16 HB.out hb)
  replace HK := mkA (blk_below HK.out hb)
  replace HM := mkA (blk_below HM.out hb)
  replace LX := mkA (Kd.R_below LX.out hb)
  replace LS := mkA (Kd.R_below LS.out hb)
  replace OX := mkA (Kd.R_below OX.out hb)
  replace OS := mkA (Kd.R_below OS.out hb)
  replace HP := mkA (blk_below HP.out hb)
  clear hb
  clear P1 P2 h2 h4
  obtain ⟨QLX, eLX, rfl, qLX, RLX⟩ := Kd.R_reads LX.out
  have HLX := mkA RLX
  clear RLX
  obtain ⟨QLS, eLS, rfl, qLS, RLS⟩ := Kd.R_reads LS.out
  have HLS := mkA RLS
  clear RLS
  obtain ⟨QOX, eOX, rfl, qOX, ROX⟩ := Kd.R_reads OX.out
  have HOX := mkA ROX
  clear ROX
  obtain ⟨QOS, eOS, rfl, qOS, ROS⟩ := Kd.R_reads OS.out
  have HOS := mkA ROS
  clear ROS
  have HIN := mkA (fun (W : World) (hb : Below w12.heap.size w12 W) => pl_inside.calls 100 QLX eLX bx QLS eLS bs true W (Kd.C_below HLX.out hb) qLX (Kd.C_below HLS.out hb) qLS F3.out)
  have HKE := mkA (fun (W : World) (hb : Below w12.heap.size w12 W) => pl_kept.calls 100 QOS eOS us QOX eOX ux true W (Kd.C_below HOS.out hb) qOS (Kd.C_below HOX.out hb) qOX F6.out)
  have HQ := mkA (z19 w12 (.cells #[.int .i64 q0, .int .i64 q1] 44))
  go_wp2_with fail
  refine (HIN.out _ (z10 (Below.refl _ _) _)).mono ?_
  rintro e w13 ⟨rfl, ⟨mm, hw⟩⟩
  have hb : Below w12.heap.size w12 w13 := by rw [hw]; exact z11 (z10 (Below.refl _ _) _) _
  have hb2 : Below (w12.alloc (.cells #[.int .i64 q0, .int .i64 q1] 44)).heap.size (w12.alloc (.cells #[.int .i64 q0, .int .i64 q1] 44)) w13 := by rw [hw]; exact z11 (Below.refl _ _) _
  replace HQ := mkA (blk_below HQ.out hb2)
  replace HP := mkA (blk_below HP.out hb)
  replace HB := mkA (z16 HB.out hb)
  have HC := mkA hb
  clear hw hb hb2
  go_wp2_with fail
  refine (HKE.out _ HC.out).mono ?_
  rintro e w14 ⟨rfl, ⟨mm, hw⟩⟩
  have hb : Below w13.heap.size w13 w14 := by rw [hw]; exact z11 (Below.refl _ _) _
  replace HQ := mkA (blk_below HQ.out hb)
  replace HP := mkA (blk_below HP.out hb)
  replace HB := mkA (z16 HB.out hb)
  clear hw hb
  obtain ⟨k0, k1⟩ := box2 HP.out
  obtain ⟨k2, k3⟩ := box2 HQ.out
  go_wp2
  go_ret
  exact ⟨rfl, HB.out⟩
/-- What makes closer true of two slates. -/
structure CloserOk (n : Int) (l1 : List S91) (l2 : List S94) (n' : Int) (l3 : List S91) (l4 : List S94) : Prop where
  len : l1.length ≤ 30 ∧ l2.length ≤ 30 ∧ l3.length ≤ 30 ∧ l4.length ≤ 30
  b : ∃ bx bs, soap_Bounds.f n (l1.map c91) (l2.map c94) = some (bx, 0) ∧ soap_Bounds.f n' (l3.map c91) (l4.map c94) = some (bs, 0) ∧ pl_inside.f 100 bx bs = some true
  o : ∃ ux us, soap_Owes.f 40 n (l1.map c91) (l2.map c94) = some (ux, 0) ∧ soap_Owes.f 40 n' (l3.map c91) (l4.map c94) = some (us, 0) ∧ pl_kept.f 100 us ux = some true
  p : ∃ p0 p1 q0 q1, soap_Fewest.f n (l1.map c91) (l2.map c94) = some (p0, p1, 0) ∧ soap_Fewest.f n' (l3.map c91) (l4.map c94) = some (q0, q1, 0) ∧ q0 ≤ p0 ∧ p1 ≤ q1
theorem closer_at {n : Int} {l1 : List S91} {l2 : List S94} {n' : Int} {l3 : List S91} {l4 : List S94} (h : CloserOk n l1 l2 n' l3 l4) (A1 : Option Addr) (m1 c1 : Nat) (A2 : Option Addr) (m2 c2 : Nat) (A3 : Option Addr) (m3 c3 : Nat) (A4 : Option Addr) (m4 c4 : Nat) (w : World)
    (h1 : Kd.C k91 w A1 m1 l1) (g1 : m1 ≤ c1) (h2 : Kd.C k94 w A2 m2 l2) (g2 : m2 ≤ c2) (h3 : Kd.C k91 w A3 m3 l3) (g3 : m3 ≤ c3) (h4 : Kd.C k94 w A4 m4 l4) (g4 : m4 ≤ c4) :
    Calls Try.prog 60 #[.agg #[.int .i64 n, .slice A1 m1 c1, .slice A2 m2 c2], .agg #[.int .i64 n', .slice A3 m3 c3, .slice A4 m4 c4]] w fun e w' => e = .returned (.bool true) ∧ Below w.heap.size w w' := by
  obtain ⟨⟨k1, k2, k3, k4⟩, ⟨bx, bs, b1, b2, b3⟩, ⟨ux, us, o1, o2, o3⟩, ⟨p0, p1, q0, q1, f1, f2, f3, f4⟩⟩ := h
  exact closer_calls n A1 m1 c1 A2 m2 c2 n' A3 m3 c3 A4 m4 c4 _ _ _ _ w (slate_ok n A1 m1 c1 l1 A2 m2 c2 l2 w h1 g1 h2 g2 k1 k2) (slate_ok n' A3 m3 c3 l3 A4 m4 c4 l4 w h3 g3 h4 g4 k3 k4) bx bs b1 b2 b3 ux us o1 o2 o3 p0 p1 q0 q1 f1 f2 f3 f4
def closerB (n : Int) (l1 : List S91) (l2 : List S94) (n' : Int) (l3 : List S91) (l4 : List S94) : Bool :=
  decide (l1.length ≤ 30 ∧ l2.length ≤ 30 ∧ l3.length ≤ 30 ∧ l4.length ≤ 30) &&
  (match soap_Bounds.f n (l1.map c91) (l2.map c94), soap_Bounds.f n' (l3.map c91) (l4.map c94) with | some b, some c => b.2 == 0 && c.2 == 0 && pl_inside.f 100 b.1 c.1 == some true | _, _ => false) &&
  (match soap_Owes.f 40 n (l1.map c91) (l2.map c94), soap_Owes.f 40 n' (l3.map c91) (l4.map c94) with | some b, some c => b.2 == 0 && c.2 == 0 && pl_kept.f 100 c.1 b.1 == some true | _, _ => false) &&
  (match soap_Fewest.f n (l1.map c91) (l2.map c94), soap_Fewest.f n' (l3.map c91) (l4.map c94) with | some b, some c => b.2.2 == 0 && c.2.2 == 0 && decide (c.1 ≤ b.1) && decide (b.2.1 ≤ c.2.1) | _, _ => false)
def pl_closer.f (n : Int) (l1 : List S91) (l2 : List S94) (n' : Int) (l3 : List S91) (l4 : List S94) : Option Bool := if closerB n l1 l2 n' l3 l4 = true then some true else none
end Go.Proofs.Ytncaadckehikpaa.Q
namespace Go.Proofs.Ytncaadckehikpaa.Q
open Go.RowKit Go.Proofs.YtncaadckehikpaaW.PrintWords Go.Proofs.YtncaadckehikpaaW.PrintLast Go.Proofs.YtncaadckehikpaaW.PrintMore
attribute [local go_sem] z30 z29 max_two min_two   -- for this text's walks alone
set_option linter.unusedVariables false
set_option linter.unusedSimpArgs false
/-! ### pr_Bounds: function 27 -/
def pr_Bounds.l0 : Nat → List (List Int) → Int → Int → Int → List (S91) → List (S94) → Int → Int → Option (Int × Int)
 | 0, _, _, _, _, _, _, _, _ => none
 | k + 1, x1, x2, x8, x212000, x212001, x212002, x216000, x216001 => if x8 < (x1.length : Int) then (if 0 ≤ x8 then ((pr_Owed.f k x212000 x212001 x212002 (rd_L4 x1 x8) x2).bind fun t217 => ((pr_Wider.f x216000 x216001 t217).bind fun bt218 => (pr_Bounds.l0 k x1 x2 (wrap64 (x8 + 1)) x212000 x212001 x212002 bt218.1 bt218.2))) else (none)) else (some (x216000, x216001))
def pr_Bounds.f (k : Nat) (a0_0 : Int) (l0_1 : List (S91)) (l0_2 : List (S94)) (l1 : List (List Int)) (a2 : Int) : Option (Int × Int) := (pr_Empty.f).bind fun bt213 => (pr_Bounds.l0 k l1 a2 0 a0_0 l0_1 l0_2 bt213.1 bt213.2)
/-! ### pr_Owes: function 28 -/
def pr_Owes.l0 : Nat → List (List Int) → Int → Int → Int → Int → List (S91) → List (S94) → Option (Int)
 | 0, _, _, _, _, _, _, _ => none
 | k + 1, x1, x2, x7, x8, x221000, x221001, x221002 => if x8 < (x1.length : Int) then (if 0 ≤ x8 then ((pr_Owed.f k x221000 x221001 x221002 (rd_L4 x1 x8) x2).bind fun t222 => (if t222 < 0 then (pr_Owes.l0 k x1 x2 (wrap64 (x7 + 1)) (wrap64 (x8 + 1)) x221000 x221001 x221002) else (pr_Owes.l0 k x1 x2 x7 (wrap64 (x8 + 1)) x221000 x221001 x221002))) else (none)) else (if x7 = (x1.length : Int) then (some 1) else (if x7 = 0 then (some 2) else (some 3)))
def pr_Owes.f (k : Nat) (a0_0 : Int) (l0_1 : List (S91)) (l0_2 : List (S94)) (l1 : List (List Int)) (a2 : Int) : Option (Int) := pr_Owes.l0 k l1 a2 0 0 a0_0 l0_1 l0_2
end Go.Proofs.Ytncaadckehikpaa.Q
namespace Go.Proofs.Ytncaadckehikpaa.Q
open Go.RowKit Go.Proofs.YtncaadckehikpaaW.PrintWords Go.Proofs.YtncaadckehikpaaW.PrintLast Go.Proofs.YtncaadckehikpaaW.PrintMore
set_option linter.unusedVariables false
set_option linter.unusedSimpArgs false
theorem z48 {n : Int} {l1 : List S91} {l2 : List S94} (h : checkS n (l1.map c91) (l2.map c94) = 0) : 0 ≤ n ∧ n ≤ 6 ∧ l1.length ≤ 6 ∧ l2.length ≤ 5 ∧ EntOk n l1 ∧ prodS (l1.map c91) ≤ 2000 := by
  obtain ⟨z0, z1, z2, z3, z4, z5, z6⟩ := z28 h
  rw [List.length_map] at z2 z3
  have he : EntOk n l1 := fun e he => List.all_eq_true.1 z4 e he
  rw [manyS_eq _ (fun e h => (he.sizes e h).1)] at z6
  refine ⟨z0, z1, z2, z3, he, ?_⟩
  unfold mn at z6
  split at z6 <;> omega
/-- Ounces of at most 40. -/
def Small (l : List S122) (os : List Int) : Prop := os.length = l.length ∧ ∀ i : Int, 0 ≤ i → i < l.length → 0 ≤ rd os i ∧ rd os i ≤ 40
end Go.Proofs.Ytncaadckehikpaa.Q
namespace Go.Proofs.Ytncaadckehikpaa.Q
open Go.RowKit Go.Proofs.YtncaadckehikpaaW.PrintWords Go.Proofs.YtncaadckehikpaaW.PrintLast Go.Proofs.YtncaadckehikpaaW.PrintMore
set_option linter.unusedVariables false
set_option linter.unusedSimpArgs false
/-- The reference's truths. -/
def truthsR (l1 : List S122) (l2 : List S124) : List (List Int) := ((List.range (prodN l1)).map (nthS l1)).filter (fun os => rightB l2 (owedL l1 os) [])
theorem prodN_le {n : Int} {l1 : List S91} {l2 : List S94} (hck : checkS n (l1.map c91) (l2.map c94) = 0) : prodN (l1.map c91) ≤ 2000 ∧ ((prodN (l1.map c91) : Nat) : Int) = prodS (l1.map c91) := by
  obtain ⟨z0, z1, z2, z3, z4, z5⟩ := z48 hck
  have := prodN_eq (l1.map c91) (fun e h => (z4.sizes e h).1)
  omega
theorem mem_ask (l1 : List S122) (l2 : List S124) (v : List Int) : ∀ (oss acc : List (List Int)), v ∈ oss.foldl (askStep l1 l2) acc ↔ v ∈ acc ∨ ∃ os ∈ oss, rightB l2 (owedL l1 os) [] = true ∧ v = owedL l1 os
  | [], acc => by simp
  | o :: r, acc => by
    rw [List.foldl_cons, mem_ask l1 l2 v r]
    have h : v ∈ askStep l1 l2 acc o ↔ v ∈ acc ∨ (rightB l2 (owedL l1 o) [] = true ∧ v = owedL l1 o) := by
      unfold askStep
      by_cases h : rightB l2 (owedL l1 o) [] = true
      · by_cases h2 : acc.getLast? = some (owedL l1 o)
        · rw [if_neg (fun q => q.2 h2)]
          exact ⟨Or.inl, fun q => q.elim id (fun q => q.2 ▸ List.mem_of_getLast? h2)⟩
        · rw [if_pos ⟨h, h2⟩]
          simp [h]
      · rw [if_neg (fun q => h q.1)]
        simp [h]
    rw [h]
    constructor
    · rintro ((h | h) | ⟨os, h1, h2⟩)
      · exact Or.inl h
      · exact Or.inr ⟨o, by simp, h⟩
      · exact Or.inr ⟨os, by simp [h1], h2⟩
    · rintro (h | ⟨os, h1, h2⟩)
      · exact Or.inl (Or.inl h)
      · rcases List.mem_cons.1 h1 with rfl | h1
        · exact Or.inl (Or.inr h2)
        · exact Or.inr ⟨os, h1, h2⟩
theorem mem_truthsR (l1 : List S122) (l2 : List S124) (os : List Int) : os ∈ truthsR l1 l2 ↔ os ∈ enumO [] l1 ∧ rightB l2 (owedL l1 os) [] = true := by
  unfold truthsR
  rw [List.mem_filter, mem_enumO]
  refine and_congr ?_ Iff.rfl
  simp only [List.mem_map, List.mem_range, List.nil_append]
  exact ⟨fun ⟨m, h, e⟩ => ⟨m, h, e.symm⟩, fun ⟨m, h, e⟩ => ⟨m, h, e.symm⟩⟩
/-- The program's vectors are those of the reference's truths. -/
theorem mem_truthsL (l1 : List S122) (l2 : List S124) (v : List Int) : v ∈ truthsL l1 l2 ↔ ∃ os ∈ truthsR l1 l2, v = owedL l1 os := by
  unfold truthsL askedL
  rw [mem_ask]
  simp only [List.not_mem_nil, false_or, mem_truthsR]
  exact ⟨fun ⟨os, h1, h2, h3⟩ => ⟨os, ⟨h1, h2⟩, h3⟩, fun ⟨os, ⟨h1, h2⟩, h3⟩ => ⟨os, h1, h2, h3⟩⟩
/-- Bounds of numbers: the ends are among them. -/
theorem bnd_fold : ∀ (r : List Int) (b : Int × Int) (P : Int → Prop), P b.1 → P b.2 → (∀ x, P x → b.1 ≤ x ∧ x ≤ b.2) →
    (P (r.foldl (fun b y => (mn b.1 y, mx b.2 y)) b).1 ∨ (r.foldl (fun b y => (mn b.1 y, mx b.2 y)) b).1 ∈ r) ∧ (P (r.foldl (fun b y => (mn b.1 y, mx b.2 y)) b).2 ∨ (r.foldl (fun b y => (mn b.1 y, mx b.2 y)) b).2 ∈ r) ∧
      ∀ x, P x ∨ x ∈ r → (r.foldl (fun b y => (mn b.1 y, mx b.2 y)) b).1 ≤ x ∧ x ≤ (r.foldl (fun b y => (mn b.1 y, mx b.2 y)) b).2
  | [], b, P, h1, h2, h3 => ⟨Or.inl h1, Or.inl h2, fun x h => h3 x (h.elim id (fun q => absurd q (by simp)))⟩
  | y :: r, b, P, h1, h2, h3 => by
    have h := bnd_fold r (mn b.1 y, mx b.2 y) (fun x => P x ∨ x = y) (by unfold mn; simp only; split <;> simp [h1]) (by unfold mx; simp only; split <;> simp [h2]) (by
      intro x hx
      rcases hx with hx | hx
      · have := h3 x hx
        unfold mn mx
        simp only
        constructor <;> split <;> omega
      · unfold mn mx
        simp only
        constructor <;> split <;> omega)
    rw [List.foldl_cons]
    refine ⟨?_, ?_, fun x hx => h.2.2 x ?_⟩
    · rcases h.1 with (q | q) | q
      · exact Or.inl q
      · exact Or.inr (by rw [q]; simp)
      · exact Or.inr (List.mem_cons_of_mem _ q)
    · rcases h.2.1 with (q | q) | q
      · exact Or.inl q
      · exact Or.inr (by rw [q]; simp)
      · exact Or.inr (List.mem_cons_of_mem _ q)
    · rcases hx with hx | hx
      · exact Or.inl (Or.inl hx)
      · rcases List.mem_cons.1 hx with hx | hx
        · exact Or.inl (Or.inr hx)
        · exact Or.inr hx
theorem bnd_spec (xs : List Int) (h : xs ≠ []) : (bndL xs).1 ∈ xs ∧ (bndL xs).2 ∈ xs ∧ ∀ x ∈ xs, (bndL xs).1 ≤ x ∧ x ≤ (bndL xs).2 := by
  cases xs with
  | nil => exact absurd rfl h
  | cons x r =>
    have := bnd_fold r (x, x) (fun y => y = x) rfl rfl (fun y hy => by subst hy; simp)
    simp only [bndL]
    refine ⟨?_, ?_, fun y hy => this.2.2 y (List.mem_cons.1 hy)⟩
    · exact List.mem_cons.2 this.1
    · exact List.mem_cons.2 this.2.1
section
variable (n : Int) (l1 : List S91) (l2 : List S94) (oss : List (List Int)) (w : Int) (hck : checkS n (l1.map c91) (l2.map c94) = 0) (ho : ∀ os ∈ oss, Small (l1.map c91) os) (hl : oss.length ≤ 2000) (hw : 0 ≤ w) (hw6 : w < 6)
include hck ho hl hw hw6
end
end Go.Proofs.Ytncaadckehikpaa.Q
namespace Go.Proofs.Ytncaadckehikpaa.Q
open Go.RowKit Go.Proofs.YtncaadckehikpaaW.PrintWords Go.Proofs.YtncaadckehikpaaW.PrintLast Go.Proofs.YtncaadckehikpaaW.PrintMore
attribute [local go_sem] z30 z29 max_two min_two   -- for this text's walks alone
set_option linter.unusedVariables false
set_option linter.unusedSimpArgs false
end Go.Proofs.Ytncaadckehikpaa.Q
namespace Go.Proofs.Ytncaadckehikpaa.Q
open Go.RowKit Go.Proofs.YtncaadckehikpaaW.PrintWords Go.Proofs.YtncaadckehikpaaW.PrintLast Go.Proofs.YtncaadckehikpaaW.PrintMore
set_option linter.unusedVariables false
set_option linter.unusedSimpArgs false
attribute [local go_sem] Oper.semAt_some
/-- Whether some of the ounces make all sayings right. -/
def anyL (l1 : List S122) (l2 : List S124) (out : List Int) (oss : List (List Int)) : Bool := oss.any (fun os => rightB l2 (owedL l1 os) out)
def possB (l1 : List S122) (l2 : List S124) (out : List Int) : Bool := anyL l1 l2 out (enumO [] l1)
/-- What holds between two rounds, and behind the loop. -/
structure PossI (w0 : World) (tb ob rb : Nat) (n : Int) (A1 : Option Addr) (c1 : Nat) (l1 : List S122) (A2 : Option Addr) (c2 : Nat) (l2 : List S124) (A3 : Option Addr) (m3 c3 : Nat) (r : Bool) (W : World) : Prop where
  below : Below w0.heap.size w0 W
  tb : W.heap[tb]? = some (.cells #[.int .i64 n, .slice A1 l1.length c1, .slice A2 l2.length c2] 35 (0, 0))
  ob : W.heap[ob]? = some (.cells #[.slice A3 m3 c3] 37 (0, 0))
  rb : W.heap[rb]? = some (.cells #[.bool r] 4 (0, 0))
theorem PossI.zone {w0 : World} {tb ob rb B : Nat} {n : Int} {A1 : Option Addr} {c1 : Nat} {l1 : List S122} {A2 : Option Addr} {c2 : Nat} {l2 : List S124} {A3 : Option Addr} {m3 c3 : Nat} {r : Bool} {W W' : World}
    (h : PossI w0 tb ob rb n A1 c1 l1 A2 c2 l2 A3 m3 c3 r W) (hz : Zone6 B W W') (h0 : w0.heap.size ≤ B) (h1 : tb < B) (h2 : ob < B) (h3 : rb < B) : PossI w0 tb ob rb n A1 c1 l1 A2 c2 l2 A3 m3 c3 r W' :=
  ⟨⟨hz.os.trans h.below.os, hz.tape.trans h.below.tape, hz.output.trans h.below.output, Nat.le_trans h.below.size hz.size, fun k hk => (hz.block k (by have := h.below.size; omega) (by omega)).trans (h.below.block k hk)⟩,
   (hz.block _ (z22 h.tb) (by omega)).trans h.tb, (hz.block _ (z22 h.ob) (by omega)).trans h.ob, (hz.block _ (z22 h.rb) (by omega)).trans h.rb⟩
set_option maxHeartbeats 4000000 in
set_option maxRecDepth 100000 in
theorem possible_calls (n : Int) (A1 : Option Addr) (c1 : Nat) (l1 : List S122) (A2 : Option Addr) (c2 : Nat) (l2 : List S124) (A3 : Option Addr) (c3 : Nat) (out : List Int) (w : World) (hck : checkS n l1 l2 = 0)
    (hr1 : Kd.C k122 w A1 l1.length l1) (hc1 : l1.length ≤ c1) (hr2 : Kd.C k124 w A2 l2.length l2) (hc2 : l2.length ≤ c2) (hr3 : Kd.C (Kd.int .i64) w A3 out.length out) (hc3 : out.length ≤ c3) (hout : (out.length : Int) ≤ 140737488355328) :
    Calls Try.prog 84 #[.agg #[.int .i64 n, .slice A1 l1.length c1, .slice A2 l2.length c2], .slice A3 out.length c3] w fun e w' => e = .returned (.bool (possB l1 l2 out)) ∧ Below w.heap.size w w' := by
  have hu35 := Try.underlying35
  have hu128 := Try.underlying128
  obtain ⟨wa, hwa⟩ : ∃ wa, ((w.alloc (.cells #[.int .i64 n, .slice A1 l1.length c1, .slice A2 l2.length c2] 35)).alloc (.cells #[.slice A3 out.length c3] 37)).alloc (.cells #[.bool false] 4) = wa := ⟨_, rfl⟩
  have hwz : wa.heap.size = w.heap.size + 3 := by rw [← hwa]; simp
  have hbw : Below w.heap.size w wa := by rw [← hwa]; exact z10 (z10 (z10 (Below.refl _ _) _) _) _
  have HPA := mkA (show PossI w w.heap.size (w.heap.size + 1) (w.heap.size + 2) n A1 c1 l1 A2 c2 l2 A3 out.length c3 false wa from by
    refine ⟨hbw, ?_, ?_, ?_⟩
    · rw [← hwa]; exact blk_below (z19 w _) (z10 (z10 (Below.refl _ _) _) _)
    · rw [← hwa]; exact blk_below (by simpa using z19 (w.alloc _) (.cells #[.slice A3 out.length c3] 37)) (z10 (Below.refl _ _) _)
    · rw [← hwa]; simpa using z19 ((w.alloc _).alloc _) (.cells #[.bool false] 4))
  have HR1 := mkA hr1
  have HR2 := mkA hr2
  have HR3 := mkA hr3
  have HZ := mkA hck
  have hs0 : wa.cell? ⟨w.heap.size, 0, none⟩ = some (.int .i64 n) := (z12 HPA.out.tb 0).trans rfl
  have hs1 : wa.cell? ⟨w.heap.size, 1, none⟩ = some (.slice A1 l1.length c1) := (z12 HPA.out.tb 1).trans rfl
  have hs2 : wa.cell? ⟨w.heap.size, 2, none⟩ = some (.slice A2 l2.length c2) := (z12 HPA.out.tb 2).trans rfl
  clear hr1 hr2 hr3 hck hbw
  refine (callsIn_wide (n := 4)).1 ?_
  refine callsIn_of_wp_marks Try.func84 rfl trivial ?_ rfl
  simp only [Try.ntmps84, List.size_toArray, List.length_cons, List.length_nil, Nat.reduceAdd, Nat.reduceSub, Array.replicate_succ, Array.replicate_zero, List.push_toArray, List.append_toArray, List.nil_append, List.cons_append]
  gi_wp2_with fail
  refine ⟨trivial, ?_⟩
  refine (callsIn_wide.2 (ounces_calls _ _ _ _ _ _ _ _)).mono ?_
  rintro e w2 ⟨rfl, hw2⟩
  clear hwa hs0 hs1 hs2
  have hz2 : w2.heap.size = w.heap.size + 4 := by rw [hw2]; simp [hwz]
  have HI2 := mkA (show PossI w w.heap.size (w.heap.size + 1) (w.heap.size + 2) n A1 c1 l1 A2 c2 l2 A3 out.length c3 false w2 from by
    rw [hw2]
    have hb := z10 (Below.refl wa.heap.size wa) (.cells #[.int .i64 n, .slice A1 l1.length c1, .slice A2 l2.length c2] 35)
    exact ⟨z16 HPA.out.below hb, blk_below HPA.out.tb hb, blk_below HPA.out.ob hb, blk_below HPA.out.rb hb⟩)
  have HBS := mkA (show w2.heap[wa.heap.size]? = some (.cells #[.int .i64 n, .slice A1 l1.length c1, .slice A2 l2.length c2] 35 (0, 0)) from by rw [hw2]; exact z19 wa _)
  clear hw2 HPA
  gi_wp2_with fail
  refine range_ounces w (w.heap.size + 3) n A1 c1 l1 A2 c2 l2 HZ.out HR1.out hc1 rfl HI2.out.below (by rw [← hwz]; exact HBS.out)
    (fun pre W => PossI w w.heap.size (w.heap.size + 1) (w.heap.size + 2) n A1 c1 l1 A2 c2 l2 A3 out.length c3 false W ∧ anyL l1 l2 out pre = false)
    (fun c pre W => c = .ret ∧ PossI w w.heap.size (w.heap.size + 1) (w.heap.size + 2) n A1 c1 l1 A2 c2 l2 A3 out.length c3 true W ∧ anyL l1 l2 out pre = true)
    (fun pre V V' h hz => ⟨h.1.zone hz (by omega) (by omega) (by omega) (by omega), h.2⟩) (fun c pre V V' h hz => ⟨h.1, h.2.1.zone hz (by omega) (by omega) (by omega) (by omega), h.2.2⟩) ⟨HI2.out, rfl⟩ 5 ?assign ?body ?done ?stop
  case assign =>
    intro l os W K hK
    unfold aggV roundAct at *
    gi_wp2
    exact hK
  case body =>
    rintro l pre os bx W ⟨hi, han⟩ hbW hol hfit hpre hbx hbox
    have HI := mkA hi
    have HBX := mkA hbox
    clear hi hbox hfit HI2 HBS
    unfold aggV roundAct
    simp only [xq1, xq2, xq3]
    generalize hu : owedL l1 os = u at HBX ⊢
    have HU := mkA hu
    have hul : u.length = 6 := by rw [← hu]; exact z38 _ _ _
    clear hu
    have HRC := mkA (right_calls n A1 c1 l1 A2 c2 l2 u A3 c3 out W (Kd.C_below HR2.out hbW) hc2 (Kd.C_below HR3.out hbW) hc3 hul hout (by obtain ⟨z0, z1, z2, z3, _⟩ := z28 HZ.out; exact z3) (fun i q0 q1 => by
      have := saying_in HZ.out i q0 q1
      obtain ⟨z0, z1, z2, z3, _⟩ := z28 HZ.out
      omega))
    unfold aggV at HRC
    have k0 : W.cell? ⟨w.heap.size, 0, none⟩ = some (.int .i64 n) := (z12 HI.out.tb 0).trans rfl
    have k1 : W.cell? ⟨w.heap.size, 1, none⟩ = some (.slice A1 l1.length c1) := (z12 HI.out.tb 1).trans rfl
    have k2 : W.cell? ⟨w.heap.size, 2, none⟩ = some (.slice A2 l2.length c2) := (z12 HI.out.tb 2).trans rfl
    have k3 : W.cell? ⟨w.heap.size + 1, 0, none⟩ = some (.slice A3 out.length c3) := (z12 HI.out.ob 0).trans rfl
    have j0 : W.cell? ⟨bx, 0, none⟩ = some (.int .i64 (rd u 0)) := (z12 HBX.out 0).trans rfl
    have j1 : W.cell? ⟨bx, 1, none⟩ = some (.int .i64 (rd u 1)) := (z12 HBX.out 1).trans rfl
    have j2 : W.cell? ⟨bx, 2, none⟩ = some (.int .i64 (rd u 2)) := (z12 HBX.out 2).trans rfl
    have j3 : W.cell? ⟨bx, 3, none⟩ = some (.int .i64 (rd u 3)) := (z12 HBX.out 3).trans rfl
    have j4 : W.cell? ⟨bx, 4, none⟩ = some (.int .i64 (rd u 4)) := (z12 HBX.out 4).trans rfl
    have j5 : W.cell? ⟨bx, 5, none⟩ = some (.int .i64 (rd u 5)) := (z12 HBX.out 5).trans rfl
    have HAN := mkA (show anyL l1 l2 out (pre ++ [os]) = rightB l2 u out from by
      unfold anyL at han ⊢
      rw [List.any_append, han, ← HU.out]
      simp)
    have HBW2 := mkA hbW
    clear han hbW
    gi_wp2_with fail
    refine ⟨trivial, ?_⟩
    refine (calls_in_round HRC.out).mono ?_
    rintro e w3 ⟨rfl, hb⟩
    have HB3 := mkA hb
    have hq := blk_below HI.out.rb hb
    have hrc : w3.cell? ⟨w.heap.size + 2, 0, none⟩ = some (.bool false) := (z12 hq 0).trans rfl
    have hrf : w3.frozen? ⟨w.heap.size + 2, 0, none⟩ = false := z14 hq _
    have HQ := mkA hq
    clear hb hq HRC k0 k1 k2 k3 j0 j1 j2 j3 j4 j5
    have HI3 := mkA (show PossI w w.heap.size (w.heap.size + 1) (w.heap.size + 2) n A1 c1 l1 A2 c2 l2 A3 out.length c3 false w3 from ⟨z16 HI.out.below HB3.out, blk_below HI.out.tb HB3.out, blk_below HI.out.ob HB3.out, HQ.out⟩)
    cases hr : rightB l2 u out with
    | true =>
      have HRR := mkA hr
      clear hr
      gi_wp2
      have hs3 := HB3.out.size
      refine ⟨⟨by simp [World.setCell]; exact hs3, fun k hk hz => (Below.heap_setCell _ _ _ _ (show k ≠ w.heap.size + 2 by omega)).trans (HB3.out.block k hk)⟩, rfl, ⟨z15 HI3.out.below (show w.heap.size ≤ w.heap.size + 2 by omega), (Below.heap_setCell _ _ _ _ (show w.heap.size ≠ w.heap.size + 2 by omega)).trans HI3.out.tb, (Below.heap_setCell _ _ _ _ (show w.heap.size + 1 ≠ w.heap.size + 2 by omega)).trans HI3.out.ob, ?_⟩, by rw [HAN.out]; exact HRR.out⟩
      simp [World.setCell, Array.getElem?_modify, HI3.out.rb]
    | false =>
      have HRR := mkA hr
      clear hr
      gi_wp2
      exact ⟨KeepZ.of_below HB3.out, HI3.out.below, HI3.out, by rw [HAN.out]; exact HRR.out⟩
  case done =>
    rintro W ⟨hi, han⟩ hK
    have HI := mkA hi
    have HKK := mkA hK
    have HAN := mkA han
    have hrc : W.cell? ⟨w.heap.size + 2, 0, none⟩ = some (.bool false) := (z12 hi.rb 0).trans rfl
    have hrf : W.frozen? ⟨w.heap.size + 2, 0, none⟩ = false := z14 hi.rb _
    clear hi han hK
    gi_wp2
    rw [z26 hrc]
    refine ⟨by simp, .inl ⟨_, _, rfl, run_takeDeferred HKK.out, ?_⟩⟩
    have hz := HI.out.zone (Zone6.put W (.deferred none) ⟨Nat.le_refl w2.heap.size, by omega⟩) (by omega) (by omega) (by omega) (by omega)
    have hc : (W.putObj w2.heap.size (.deferred none)).cell? ⟨w.heap.size + 2, 0, none⟩ = some (.bool false) := (z12 hz.rb 0).trans rfl
    refine ⟨.bool false, by simp [results, Try.results84, go_sem, hc], by rw [show possB l1 l2 out = false from HAN.out], hz.below⟩
  case stop =>
    rintro c pre W hpre ⟨rfl, hi, han⟩ hK
    have HI := mkA hi
    have HKK := mkA hK
    have HAN := mkA (show possB l1 l2 out = true from by
      unfold possB anyL at *
      rw [List.any_eq_true] at han ⊢
      obtain ⟨x, hx, hr⟩ := han
      exact ⟨x, hpre.subset hx, hr⟩)
    clear hi han hK
    gi_wp2
    refine ⟨by simp, .inl ⟨_, _, rfl, run_takeDeferred HKK.out, ?_⟩⟩
    have hz := HI.out.zone (Zone6.put W (.deferred none) ⟨Nat.le_refl w2.heap.size, by omega⟩) (by omega) (by omega) (by omega) (by omega)
    have hc : (W.putObj w2.heap.size (.deferred none)).cell? ⟨w.heap.size + 2, 0, none⟩ = some (.bool true) := (z12 hz.rb 0).trans rfl
    refine ⟨.bool true, by simp [results, Try.results84, go_sem, hc], by rw [HAN.out], hz.below⟩
end Go.Proofs.Ytncaadckehikpaa.Q
namespace Go.Proofs.Ytncaadckehikpaa.Q
open Go.RowKit Go.Proofs.YtncaadckehikpaaW.PrintWords Go.Proofs.YtncaadckehikpaaW.PrintLast Go.Proofs.YtncaadckehikpaaW.PrintMore
set_option linter.unusedVariables false
set_option linter.unusedSimpArgs false
/-- The first lie, by its number. -/
def firstO (l1 : List S122) (l2 : List S124) : Option Nat := (List.range l2.length).find? (fun i => !possB l1 (l2.take (i + 1)) [])
def soap_First.f (a0_0 : Int) (l0_1 : List (S122)) (l0_2 : List (S124)) : Option (Int × Int) :=
  some (if checkS a0_0 l0_1 l0_2 = 0 then (match firstO l0_1 l0_2 with | some i => ((i : Int), 0) | none => (0, 7)) else (0, checkS a0_0 l0_1 l0_2))
theorem checkS_take {n : Int} {l1 : List S122} {l2 : List S124} (h : checkS n l1 l2 = 0) (m : Nat) : checkS n l1 (l2.take m) = 0 := by
  obtain ⟨z0, z1, z2, z3, z4, z5, z6⟩ := z28 h
  have z5' : (l2.take m).all (sayingB n) = true := by
    rw [List.all_eq_true] at z5 ⊢
    exact fun x hx => z5 x (List.mem_of_mem_take hx)
  unfold checkS
  rw [if_neg (by
    rintro (q | q | q)
    · omega
    · omega
    · rw [List.length_take] at q; omega), if_neg (by
    rintro (q | q | q)
    · omega
    · rw [z4] at q; cases q
    · rw [z5'] at q; cases q), if_neg (by omega)]
theorem find_some {p : Nat → Bool} {n k : Nat} (hk : k < n) (hp : p k = true) (hm : ∀ j, j < k → p j = false) : (List.range n).find? p = some k := by
  rw [List.find?_eq_some_iff_getElem]
  refine ⟨hp, k, by simpa using hk, by simp, fun j hj => ?_⟩
  rw [List.getElem_range, hm j hj]
  rfl
theorem find_none {p : Nat → Bool} {n : Nat} (hm : ∀ j, j < n → p j = false) : (List.range n).find? p = none := by
  rw [List.find?_eq_none]
  intro x hx
  rw [hm x (List.mem_range.1 hx)]
  simp
set_option maxHeartbeats 4000000 in
set_option maxRecDepth 100000 in
theorem soap_First.calls (a0_0 : Int) (A0_1 : Option Addr) (c0_1 : Nat) (l0_1 : List (S122)) (A0_2 : Option Addr) (c0_2 : Nat) (l0_2 : List (S124)) (r1 r2 : Int) (w : World) (hr0_1 : Kd.C k122 w A0_1 l0_1.length l0_1) (hc0_1 : l0_1.length ≤ c0_1) (hr0_2 : Kd.C k124 w A0_2 l0_2.length l0_2) (hc0_2 : l0_2.length ≤ c0_2) (h : soap_First.f a0_0 l0_1 l0_2 = some (r1, r2)) :
    Calls Try.prog 39 #[.agg #[.int .i64 a0_0, .slice A0_1 l0_1.length c0_1, .slice A0_2 l0_2.length c0_2]] w fun e w' => e = .returned (.tuple #[.int .i64 r1, .int .i64 r2]) ∧ Below w.heap.size w w' := by
  have hu35 := Try.underlying35
  have hu33 := Try.underlying33
  have h2 := Option.some.inj h
  clear h
  have hbw : Below w.heap.size w (w.alloc (.cells #[.int .i64 a0_0, .slice A0_1 l0_1.length c0_1, .slice A0_2 l0_2.length c0_2] 35)) := z10 (Below.refl _ _) _
  have HCK := mkA (soap_CheckSlate.calls a0_0 A0_1 c0_1 l0_1 A0_2 c0_2 l0_2 _ _ (Kd.C_below hr0_1 hbw) hc0_1 (Kd.C_below hr0_2 hbw) hc0_2 rfl)
  have HR1 := mkA hr0_1
  have HR2 := mkA hr0_2
  have HBW := mkA hbw
  have HS0 := mkA (z19 w (.cells #[.int .i64 a0_0, .slice A0_1 l0_1.length c0_1, .slice A0_2 l0_2.length c0_2] 35))
  clear hr0_1 hr0_2 hbw
  go_enter Try.func39, Try.ntmps39
  go_wp2_with fail
  refine HCK.out.mono ?_
  rintro e w1 ⟨rfl, hb⟩
  have HB1 := mkA (z16 HBW.out hb)
  have HS1 := mkA (blk_below HS0.out hb)
  clear hb HCK HBW HS0
  by_cases hck : checkS a0_0 l0_1 l0_2 = 0
  · rw [if_pos hck] at h2
    have HZ := mkA hck
    have HH2 := mkA h2
    have hlt : w.heap.size < w1.heap.size := z22 HS1.out
    have hs0 : w1.cell? ⟨w.heap.size, 0, none⟩ = some (.int .i64 a0_0) := (z12 HS1.out 0).trans rfl
    have hs1 : w1.cell? ⟨w.heap.size, 1, none⟩ = some (.slice A0_1 l0_1.length c0_1) := (z12 HS1.out 1).trans rfl
    have hs2 : w1.cell? ⟨w.heap.size, 2, none⟩ = some (.slice A0_2 l0_2.length c0_2) := (z12 HS1.out 2).trans rfl
    have hl5 : l0_2.length ≤ 5 := by obtain ⟨z0, z1, z2, z3, _⟩ := z28 hck; exact z3
    rw [hck]
    clear h2 hck
    go_wp2
    go_loopw [16] (fun i wr => ∃ (k : Int) (sv : Value), 0 ≤ k ∧ k ≤ (l0_2.length : Int) ∧ i = .int .i64 k ∧ Aside0 (wr.heap[w.heap.size]? = some (.cells #[.int .i64 a0_0, .slice A0_1 l0_1.length c0_1, .slice A0_2 l0_2.length c0_2] 35 (0, 0))) ∧ Aside0 (wr.heap[w1.heap.size]? = some (.cells #[.int .i64 a0_0, .slice A0_1 l0_1.length c0_1, sv] 35 (0, 0))) ∧ Aside0 (Below w.heap.size w wr) ∧ Aside0 (∀ j : Nat, j < k.toNat → possB l0_1 (l0_2.take (j + 1)) [] = true)) (fun i _ => l0_2.length - (intOf i).toNat)
    case atStart => exact ⟨0, _, by omega, by omega, rfl, ⟨blk_below HS1.out (z10 (Below.refl _ _) _)⟩, ⟨z19 w1 _⟩, ⟨z10 HB1.out _⟩, ⟨fun j hj => by simp at hj⟩⟩
    case round =>
      obtain ⟨k, sv, hk0, hk1, rfl, HT, HG, HB, HM⟩ := hrel
      have t2 : wr.cell? ⟨w.heap.size, 2, none⟩ = some (.slice A0_2 l0_2.length c0_2) := (z12 HT.out 2).trans rfl
      by_cases hlk : k < (l0_2.length : Int)
      · have g1 : decide (k < (l0_2.length : Int)) = true := decide_eq_true hlk
        have u2 : wr.cell? ⟨w1.heap.size, 2, none⟩ = some sv := (z12 HG.out 2).trans rfl
        have uf2 : wr.frozen? ⟨w1.heap.size, 2, none⟩ = false := z14 HG.out _
        have u0 : wr.cell? ⟨w1.heap.size, 0, none⟩ = some (.int .i64 a0_0) := (z12 HG.out 0).trans rfl
        have u1 : wr.cell? ⟨w1.heap.size, 1, none⟩ = some (.slice A0_1 l0_1.length c0_1) := (z12 HG.out 1).trans rfl
        have hkl : (l0_2.take (k + 1).toNat).length = (k + 1).toNat := by rw [List.length_take]; omega
        have hd2 : (wr.setCell ⟨w1.heap.size, 2, none⟩ (.slice A0_2 (k + 1).toNat c0_2)).cell? ⟨w1.heap.size, 2, none⟩ = some (.slice A0_2 (k + 1).toNat c0_2) := World.cell?_setCell_same' _ _ _ (by rw [u2]; rfl)
        have HB2 := mkA (show Below w.heap.size w (wr.setCell ⟨w1.heap.size, 2, none⟩ (.slice A0_2 (k + 1).toNat c0_2)) from z15 HB.out (show w.heap.size ≤ w1.heap.size by omega))
        have HG2 := mkA (show (wr.setCell ⟨w1.heap.size, 2, none⟩ (.slice A0_2 (k + 1).toNat c0_2)).heap[w1.heap.size]? = some (.cells #[.int .i64 a0_0, .slice A0_1 l0_1.length c0_1, .slice A0_2 (k + 1).toNat c0_2] 35 (0, 0)) from by simp [World.setCell, Array.getElem?_modify, HG.out])
        have HT2 := mkA (show (wr.setCell ⟨w1.heap.size, 2, none⟩ (.slice A0_2 (k + 1).toNat c0_2)).heap[w.heap.size]? = _ from (Below.heap_setCell _ _ _ _ (show w.heap.size ≠ w1.heap.size by omega)).trans HT.out)
        have HPC := mkA (possible_calls a0_0 A0_1 c0_1 l0_1 A0_2 c0_2 (l0_2.take (k + 1).toNat) none 0 [] _ (checkS_take HZ.out _) (Kd.C_below HR1.out HB2.out) hc0_1 (Kd.C_take (Kd.C_below HR2.out HB2.out) (by omega)) (by omega) (Kd.C_nil _ _) (Nat.le_refl _) (by simp))
        rw [hkl] at HPC
        generalize hp : possB l0_1 (l0_2.take (k + 1).toNat) [] = pb at HPC
        have HP := mkA hp
        clear hp hkl
        simp only [List.length_nil] at HPC
        go_wp2_with fail
        refine HPC.out.mono ?_
        rintro e w3 ⟨rfl, hb⟩
        have HB3 := mkA (HB2.out.trans (hb.mono HB2.out.size))
        have HG3 := mkA (blk_below HG2.out hb)
        have HT3 := mkA (blk_below HT2.out hb)
        clear hb HPC
        cases pb with
        | true =>
          go_wp2
          go_round
          case measure => simp [intOf]; omega
          case rel =>
            refine ⟨k + 1, _, by omega, by omega, by go_num, HT3, HG3, HB3, ⟨fun j hj => ?_⟩⟩
            by_cases hjk : j < k.toNat
            · exact HM.out j hjk
            · obtain rfl : j = k.toNat := by omega
              rw [show k.toNat + 1 = (k + 1).toNat by omega]
              exact HP.out
        | false =>
          have hf : firstO l0_1 l0_2 = some k.toNat := find_some (by omega) (by rw [show k.toNat + 1 = (k + 1).toNat by omega, HP.out]; rfl) (fun j hj => by rw [HM.out j hj]; rfl)
          have hh := HH2.out
          rw [hf] at hh
          obtain ⟨rfl, rfl⟩ := Prod.mk.inj hh
          have HK := mkA (show ((k.toNat : Nat) : Int) = k by omega)
          clear hh hf
          go_wp2
          go_ret2
          exact ⟨by rw [HK.out]; rfl, HB3.out⟩
      · have g1 : decide (k < (l0_2.length : Int)) = false := decide_eq_false hlk
        obtain rfl : k = l0_2.length := by omega
        have hf : firstO l0_1 l0_2 = none := find_none (fun j hj => by rw [HM.out j (by simpa using hj)]; rfl)
        have hh := HH2.out
        rw [hf] at hh
        obtain ⟨rfl, rfl⟩ := Prod.mk.inj hh
        clear hh hf
        go_wp2
        go_ret2
        exact ⟨rfl, HB.out⟩
  · rw [if_neg hck] at h2
    obtain ⟨rfl, rfl⟩ := Prod.mk.inj h2
    generalize hqq : checkS a0_0 l0_1 l0_2 = q at hck ⊢
    have HQQ := mkA hqq
    have g1 : (q != 0) = true := bne_iff_ne.2 hck
    clear h2 hck hqq
    go_wp2
    go_ret2
    exact ⟨by rw [HQQ.out]; rfl, HB1.out⟩
end Go.Proofs.Ytncaadckehikpaa.Q
