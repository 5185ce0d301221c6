/- A part of the proof: contracts of functions and plain facts (HAwake). No condition. -/
import Derived.Test.YtncaadckehikpaaM23
import Derived.Test.YtncaadckehikpaaM20
import Derived.Test.YtncaadckehikpaaM9
import Derived.Test.YtncaadckehikpaaM21
namespace Go.Proofs.Ytncaadckehikpaa.Q
open Go.RowKit Go.Proofs.YtncaadckehikpaaW.PrintWords Go.Proofs.YtncaadckehikpaaW.PrintLast Go.Proofs.YtncaadckehikpaaW.PrintMore
set_option linter.unusedVariables false
set_option linter.unusedSimpArgs false
theorem four_at (k : Int) (hk0 : 0 ≤ k) (hk3 : k ≤ 3) (m : Nat) (hm : k.toNat = m) (hl : (fourS.take m).length = m) (w : World) :
    Calls Try.prog 70 #[.int .i64 k] w fun e w' => ∃ A1 A2, e = .returned (.agg #[.int .i64 4, .slice A1 fourE.length 3, .slice A2 (fourS.take m).length 3]) ∧ Kd.C k122 w' A1 fourE.length fourE ∧ Kd.C k124 w' A2 (fourS.take m).length (fourS.take m) ∧ Below w.heap.size w w' := by
  subst hm
  refine (four_calls k hk0 hk3 w).mono ?_
  rintro e w' ⟨A1, A2, rfl, h1, h2, h3⟩
  exact ⟨A1, A2, by rw [hl]; rfl, h1, by rw [hl]; exact h2, h3⟩
set_option maxRecDepth 100000
theorem aw1 : soap_Play.f 4 fourE (fourS.take 0) [3, 2, 1] = some ([3, -1, -3, 1], 0) := by decide +kernel
theorem aw2 : soap_Bounds.f 4 fourE (fourS.take 1) = some ([⟨2, 3⟩, ⟨-1, 0⟩, ⟨-4, -3⟩, ⟨1, 2⟩], 0) := by kernel_rfl
theorem aw3 : soap_Owes.f 40 4 fourE (fourS.take 0) = some ([2, 3, 1, 2], 0) := by decide +kernel
theorem aw4 : soap_Settle.f 4 fourE (fourS.take 0) [2, 2, 4] = some ([⟨2, 0, 2⟩, ⟨2, 3, 4⟩], 0) := by kernel_rfl
theorem aw5 : soap_Groups.f 4 fourE (fourS.take 0) [3, 2, 1] = some ([[0, 2], [1, 3]], 0) := by decide +kernel
theorem aw6 : soap_Fewest.f 4 fourE (fourS.take 0) = some (2, 3, 0) := by decide +kernel
theorem aw7 : soap_First.f 4 fourE (fourS.take 3) = some (2, 0) := by decide +kernel
theorem aw8 : soap_Leave.f 4 fourE (fourS.take 3) = some ([1], 0) := by decide +kernel
theorem same_at (P : Option Addr) (d : Nat) (l : List Int) (n : Nat) (g : Nat) (w : World) (hR : Kd.C (Kd.int .i64) w P n l) (hd : n ≤ d) (h2 : Kd.C (Kd.int .i64) w (some ⟨g, 0, none⟩) n l) (h : pl_same.f 40 l l = some true) :
    Calls Try.prog 42 #[.slice P n d, .slice (some ⟨g, 0, none⟩) n n] w fun e w' => e = .returned (.bool true) ∧ Drawn0 w w' := by
  obtain rfl : l.length = n := hR.1
  exact pl_same.calls 40 P d l (some ⟨g, 0, none⟩) l.length l true w hR hd h2 (Nat.le_refl _) h
def pl_awake.f : Option Bool := some true
set_option maxHeartbeats 4000000 in
theorem pl_awake.calls (r : Bool) (w : World) (h : pl_awake.f = some r) : Calls Try.prog 21 #[] w fun e w' => e = .returned (.bool r) ∧ Below w.heap.size w w' := by
  obtain rfl := Option.some.inj h
  clear h
  have hu35 := Try.underlying35
  have hu44 := Try.underlying44
  go_enter Try.func21, Try.ntmps21
  go_wp2_with fail
  go_at_call 70
  refine (four_at 0 (by decide) (by decide) 0 rfl rfl _).mono ?_
  rintro e a1 ⟨A1, B1, rfl, hE1, hS1, hb⟩
  have HA1 := mkA (z16 (Below.refl _ _) hb)
  have HE1 := mkA hE1
  have HS1 := mkA hS1
  clear hE1 hS1 hb
  go_wp2_with fail
  go_at_call 48
  refine (soap_Play.calls 4 A1 3 fourE B1 3 (fourS.take 0) (some ⟨a1.heap.size, 0, none⟩) 3 [3, 2, 1] _ _ (a1.alloc (.cells #[.int .i64 3, .int .i64 2, .int .i64 1] 3)) (Kd.C_below HE1.out (z10 (Below.refl _ _) _)) (by decide) (Kd.C_below HS1.out (z10 (Below.refl _ _) _)) (by decide) (C_ints [3, 2, 1] (by decide) (z19 a1 _)) (by decide) aw1).mono ?_
  rintro e c1 ⟨v1, rfl, hl, hb⟩
  have L1 := mkA hl
  clear hl
  have HC1 := mkA (z16 (z10 HA1.out _) hb)
  clear hb HE1 HS1 HA1
  go_wp2_with fail
  go_at_call 70
  refine (four_at 1 (by decide) (by decide) 1 rfl rfl _).mono ?_
  rintro e a2 ⟨A2, B2, rfl, hE2, hS2, hb⟩
  have HA2 := mkA (z16 HC1.out hb)
  have L1a2 := mkA (Kd.R_below L1.out hb)
  clear L1
  have HE2 := mkA hE2
  have HS2 := mkA hS2
  clear hE2 hS2 hb
  go_wp2_with fail
  go_at_call 22
  refine (soap_Bounds.calls 4 A2 3 fourE B2 3 (fourS.take 1) _ _ a2 HE2.out (by decide) HS2.out (by decide) aw2).mono ?_
  rintro e c2 ⟨v2, rfl, hl, hb⟩
  have L2 := mkA hl
  clear hl
  have HC2 := mkA (z16 HA2.out hb)
  have L1a2c2 := mkA (Kd.R_below (L1a2.out) hb)
  clear L1a2
  clear hb HE2 HS2 HA2 HC1
  go_wp2_with fail
  go_at_call 70
  refine (four_at 0 (by decide) (by decide) 0 rfl rfl _).mono ?_
  rintro e a3 ⟨A3, B3, rfl, hE3, hS3, hb⟩
  have HA3 := mkA (z16 HC2.out hb)
  have L1a2c2a3 := mkA (Kd.R_below L1a2c2.out hb)
  clear L1a2c2
  have L2a3 := mkA (Kd.R_below L2.out hb)
  clear L2
  have HE3 := mkA hE3
  have HS3 := mkA hS3
  clear hE3 hS3 hb
  go_wp2_with fail
  go_at_call 24
  refine (soap_Owes.calls 40 4 A3 3 fourE B3 3 (fourS.take 0) _ _ a3 HE3.out (by decide) HS3.out (by decide) aw3).mono ?_
  rintro e c3 ⟨v3, rfl, hl, hb⟩
  have L3 := mkA hl
  clear hl
  have HC3 := mkA (z16 HA3.out hb)
  have L1a2c2a3c3 := mkA (Kd.R_below (L1a2c2a3.out) hb)
  clear L1a2c2a3
  have L2a3c3 := mkA (Kd.R_below (L2a3.out) hb)
  clear L2a3
  clear hb HE3 HS3 HA3 HC2
  go_wp2_with fail
  go_at_call 70
  refine (four_at 0 (by decide) (by decide) 0 rfl rfl _).mono ?_
  rintro e a4 ⟨A4, B4, rfl, hE4, hS4, hb⟩
  have HA4 := mkA (z16 HC3.out hb)
  have L1a2c2a3c3a4 := mkA (Kd.R_below L1a2c2a3c3.out hb)
  clear L1a2c2a3c3
  have L2a3c3a4 := mkA (Kd.R_below L2a3c3.out hb)
  clear L2a3c3
  have L3a4 := mkA (Kd.R_below L3.out hb)
  clear L3
  have HE4 := mkA hE4
  have HS4 := mkA hS4
  clear hE4 hS4 hb
  go_wp2_with fail
  go_at_call 49
  refine (soap_Settle.calls 4 A4 3 fourE B4 3 (fourS.take 0) (some ⟨a4.heap.size, 0, none⟩) 3 [2, 2, 4] _ _ (a4.alloc (.cells #[.int .i64 2, .int .i64 2, .int .i64 4] 3)) (Kd.C_below HE4.out (z10 (Below.refl _ _) _)) (by decide) (Kd.C_below HS4.out (z10 (Below.refl _ _) _)) (by decide) (C_ints [2, 2, 4] (by decide) (z19 a4 _)) (by decide) aw4).mono ?_
  rintro e c4 ⟨v4, rfl, hl, hb⟩
  have L4 := mkA hl
  clear hl
  have HC4 := mkA (z16 (z10 HA4.out _) hb)
  have L1a2c2a3c3a4c4 := mkA (Kd.R_below (Kd.R_below L1a2c2a3c3a4.out (z10 (Below.refl _ _) _)) hb)
  clear L1a2c2a3c3a4
  have L2a3c3a4c4 := mkA (Kd.R_below (Kd.R_below L2a3c3a4.out (z10 (Below.refl _ _) _)) hb)
  clear L2a3c3a4
  have L3a4c4 := mkA (Kd.R_below (Kd.R_below L3a4.out (z10 (Below.refl _ _) _)) hb)
  clear L3a4
  clear hb HE4 HS4 HA4 HC3
  go_wp2_with fail
  go_at_call 70
  refine (four_at 0 (by decide) (by decide) 0 rfl rfl _).mono ?_
  rintro e a5 ⟨A5, B5, rfl, hE5, hS5, hb⟩
  have HA5 := mkA (z16 HC4.out hb)
  have L1a2c2a3c3a4c4a5 := mkA (Kd.R_below L1a2c2a3c3a4c4.out hb)
  clear L1a2c2a3c3a4c4
  have L2a3c3a4c4a5 := mkA (Kd.R_below L2a3c3a4c4.out hb)
  clear L2a3c3a4c4
  have L3a4c4a5 := mkA (Kd.R_below L3a4c4.out hb)
  clear L3a4c4
  have L4a5 := mkA (Kd.R_below L4.out hb)
  clear L4
  have HE5 := mkA hE5
  have HS5 := mkA hS5
  clear hE5 hS5 hb
  go_wp2_with fail
  go_at_call 29
  refine (soap_Groups.calls 4 A5 3 fourE B5 3 (fourS.take 0) (some ⟨a5.heap.size, 0, none⟩) 3 [3, 2, 1] _ _ (a5.alloc (.cells #[.int .i64 3, .int .i64 2, .int .i64 1] 3)) (Kd.C_below HE5.out (z10 (Below.refl _ _) _)) (by decide) (Kd.C_below HS5.out (z10 (Below.refl _ _) _)) (by decide) (C_ints [3, 2, 1] (by decide) (z19 a5 _)) (by decide) aw5).mono ?_
  rintro e c5 ⟨v5, rfl, hl, hb⟩
  have L5 := mkA hl
  clear hl
  have HC5 := mkA (z16 (z10 HA5.out _) hb)
  have L1a2c2a3c3a4c4a5c5 := mkA (Kd.R_below (Kd.R_below L1a2c2a3c3a4c4a5.out (z10 (Below.refl _ _) _)) hb)
  clear L1a2c2a3c3a4c4a5
  have L2a3c3a4c4a5c5 := mkA (Kd.R_below (Kd.R_below L2a3c3a4c4a5.out (z10 (Below.refl _ _) _)) hb)
  clear L2a3c3a4c4a5
  have L3a4c4a5c5 := mkA (Kd.R_below (Kd.R_below L3a4c4a5.out (z10 (Below.refl _ _) _)) hb)
  clear L3a4c4a5
  have L4a5c5 := mkA (Kd.R_below (Kd.R_below L4a5.out (z10 (Below.refl _ _) _)) hb)
  clear L4a5
  clear hb HE5 HS5 HA5 HC4
  go_wp2_with fail
  go_at_call 70
  refine (four_at 0 (by decide) (by decide) 0 rfl rfl _).mono ?_
  rintro e a6 ⟨A6, B6, rfl, hE6, hS6, hb⟩
  have HA6 := mkA (z16 HC5.out hb)
  have L1a2c2a3c3a4c4a5c5a6 := mkA (Kd.R_below L1a2c2a3c3a4c4a5c5.out hb)
  clear L1a2c2a3c3a4c4a5c5
  have L2a3c3a4c4a5c5a6 := mkA (Kd.R_below L2a3c3a4c4a5c5.out hb)
  clear L2a3c3a4c4a5c5
  have L3a4c4a5c5a6 := mkA (Kd.R_below L3a4c4a5c5.out hb)
  clear L3a4c4a5c5
  have L4a5c5a6 := mkA (Kd.R_below L4a5c5.out hb)
  clear L4a5c5
  have L5a6 := mkA (Kd.S_below L5.out hb)
  clear L5
  have HE6 := mkA hE6
  have HS6 := mkA hS6
  clear hE6 hS6 hb
  go_wp2_with fail
  go_at_call 37
  refine (soap_Fewest.calls 4 A6 3 fourE B6 3 (fourS.take 0) _ _ _ a6 HE6.out (by decide) HS6.out (by decide) aw6).mono ?_
  rintro e c6 ⟨rfl, hb⟩
  have HC6 := mkA (z16 HA6.out hb)
  have L1a2c2a3c3a4c4a5c5a6c6 := mkA (Kd.R_below (L1a2c2a3c3a4c4a5c5a6.out) hb)
  clear L1a2c2a3c3a4c4a5c5a6
  have L2a3c3a4c4a5c5a6c6 := mkA (Kd.R_below (L2a3c3a4c4a5c5a6.out) hb)
  clear L2a3c3a4c4a5c5a6
  have L3a4c4a5c5a6c6 := mkA (Kd.R_below (L3a4c4a5c5a6.out) hb)
  clear L3a4c4a5c5a6
  have L4a5c5a6c6 := mkA (Kd.R_below (L4a5c5a6.out) hb)
  clear L4a5c5a6
  have L5a6c6 := mkA (Kd.S_below (L5a6.out) hb)
  clear L5a6
  clear hb HE6 HS6 HA6 HC5
  go_wp2_with fail
  go_at_call 70
  refine (four_at 3 (by decide) (by decide) 3 rfl rfl _).mono ?_
  rintro e a7 ⟨A7, B7, rfl, hE7, hS7, hb⟩
  have HA7 := mkA (z16 (z10 HC6.out _) hb)
  have BX := mkA (blk_below (z19 c6 (.cells #[.int .i64 2, .int .i64 3] 44)) hb)
  have L1a2c2a3c3a4c4a5c5a6c6a7 := mkA (Kd.R_below (Kd.R_below L1a2c2a3c3a4c4a5c5a6c6.out (z10 (Below.refl _ _) _)) hb)
  clear L1a2c2a3c3a4c4a5c5a6c6
  have L2a3c3a4c4a5c5a6c6a7 := mkA (Kd.R_below (Kd.R_below L2a3c3a4c4a5c5a6c6.out (z10 (Below.refl _ _) _)) hb)
  clear L2a3c3a4c4a5c5a6c6
  have L3a4c4a5c5a6c6a7 := mkA (Kd.R_below (Kd.R_below L3a4c4a5c5a6c6.out (z10 (Below.refl _ _) _)) hb)
  clear L3a4c4a5c5a6c6
  have L4a5c5a6c6a7 := mkA (Kd.R_below (Kd.R_below L4a5c5a6c6.out (z10 (Below.refl _ _) _)) hb)
  clear L4a5c5a6c6
  have L5a6c6a7 := mkA (Kd.S_below (Kd.S_below L5a6c6.out (z10 (Below.refl _ _) _)) hb)
  clear L5a6c6
  have HE7 := mkA hE7
  have HS7 := mkA hS7
  clear hE7 hS7 hb
  go_wp2_with fail
  go_at_call 39
  refine (soap_First.calls 4 A7 3 fourE B7 3 (fourS.take 3) _ _ a7 HE7.out (by decide) HS7.out (by decide) aw7).mono ?_
  rintro e c7 ⟨rfl, hb⟩
  have HC7 := mkA (z16 HA7.out hb)
  have BZ := mkA (blk_below BX.out hb)
  clear BX
  have BX := BZ
  clear BZ
  have L1a2c2a3c3a4c4a5c5a6c6a7c7 := mkA (Kd.R_below (L1a2c2a3c3a4c4a5c5a6c6a7.out) hb)
  clear L1a2c2a3c3a4c4a5c5a6c6a7
  have L2a3c3a4c4a5c5a6c6a7c7 := mkA (Kd.R_below (L2a3c3a4c4a5c5a6c6a7.out) hb)
  clear L2a3c3a4c4a5c5a6c6a7
  have L3a4c4a5c5a6c6a7c7 := mkA (Kd.R_below (L3a4c4a5c5a6c6a7.out) hb)
  clear L3a4c4a5c5a6c6a7
  have L4a5c5a6c6a7c7 := mkA (Kd.R_below (L4a5c5a6c6a7.out) hb)
  clear L4a5c5a6c6a7
  have L5a6c6a7c7 := mkA (Kd.S_below (L5a6c6a7.out) hb)
  clear L5a6c6a7
  clear hb HE7 HS7 HA7 HC6
  go_wp2_with fail
  go_at_call 70
  refine (four_at 3 (by decide) (by decide) 3 rfl rfl _).mono ?_
  rintro e a8 ⟨A8, B8, rfl, hE8, hS8, hb⟩
  have HA8 := mkA (z16 HC7.out hb)
  have BY := mkA (blk_below BX.out hb)
  clear BX
  have L1a2c2a3c3a4c4a5c5a6c6a7c7a8 := mkA (Kd.R_below L1a2c2a3c3a4c4a5c5a6c6a7c7.out hb)
  clear L1a2c2a3c3a4c4a5c5a6c6a7c7
  have L2a3c3a4c4a5c5a6c6a7c7a8 := mkA (Kd.R_below L2a3c3a4c4a5c5a6c6a7c7.out hb)
  clear L2a3c3a4c4a5c5a6c6a7c7
  have L3a4c4a5c5a6c6a7c7a8 := mkA (Kd.R_below L3a4c4a5c5a6c6a7c7.out hb)
  clear L3a4c4a5c5a6c6a7c7
  have L4a5c5a6c6a7c7a8 := mkA (Kd.R_below L4a5c5a6c6a7c7.out hb)
  clear L4a5c5a6c6a7c7
  have L5a6c6a7c7a8 := mkA (Kd.S_below L5a6c6a7c7.out hb)
  clear L5a6c6a7c7
  have HE8 := mkA hE8
  have HS8 := mkA hS8
  clear hE8 hS8 hb
  go_wp2_with fail
  go_at_call 40
  refine (soap_Leave.calls 4 A8 3 fourE B8 3 (fourS.take 3) _ _ a8 HE8.out (by decide) HS8.out (by decide) aw8).mono ?_
  rintro e c8 ⟨v8, rfl, hl, hb⟩
  have L8 := mkA hl
  clear hl
  have HC8 := mkA (z16 HA8.out hb)
  have BX := mkA (blk_below BY.out hb)
  clear BY
  have L1a2c2a3c3a4c4a5c5a6c6a7c7a8c8 := mkA (Kd.R_below (L1a2c2a3c3a4c4a5c5a6c6a7c7a8.out) hb)
  clear L1a2c2a3c3a4c4a5c5a6c6a7c7a8
  have L2a3c3a4c4a5c5a6c6a7c7a8c8 := mkA (Kd.R_below (L2a3c3a4c4a5c5a6c6a7c7a8.out) hb)
  clear L2a3c3a4c4a5c5a6c6a7c7a8
  have L3a4c4a5c5a6c6a7c7a8c8 := mkA (Kd.R_below (L3a4c4a5c5a6c6a7c7a8.out) hb)
  clear L3a4c4a5c5a6c6a7c7a8
  have L4a5c5a6c6a7c7a8c8 := mkA (Kd.R_below (L4a5c5a6c6a7c7a8.out) hb)
  clear L4a5c5a6c6a7c7a8
  have L5a6c6a7c7a8c8 := mkA (Kd.S_below (L5a6c6a7c7a8.out) hb)
  clear L5a6c6a7c7a8
  clear hb HE8 HS8 HA8 HC7
  obtain ⟨P1, d1, rfl, q1, R1⟩ := Kd.R_reads L1a2c2a3c3a4c4a5c5a6c6a7c7a8c8.out
  obtain ⟨P2, d2, rfl, q2, R2⟩ := Kd.R_reads L2a3c3a4c4a5c5a6c6a7c7a8c8.out
  obtain ⟨P3, d3, rfl, q3, R3⟩ := Kd.R_reads L3a4c4a5c5a6c6a7c7a8c8.out
  obtain ⟨P4, d4, rfl, q4, R4⟩ := Kd.R_reads L4a5c5a6c6a7c7a8c8.out
  obtain ⟨P5, d5, rfl, q5, R5⟩ := Kd.S_reads L5a6c6a7c7a8c8.out
  obtain ⟨P8, d8, rfl, q8, R8⟩ := Kd.R_reads L8.out
  have HR1 := mkA R1
  have HR2 := mkA R2
  have HR3 := mkA R3
  have HR8 := mkA R8
  clear R1 R2 R3 R4 R5 R8
  go_wp2_with fail
  obtain ⟨ad2, h2, x0, x1⟩ := at_T44 HR2.out 2 (by decide) (by decide)
  subst h2
  obtain ⟨ad2', h2', x2, x3⟩ := at_T44 HR2.out 3 (by decide) (by decide)
  obtain rfl := Option.some.inj h2'
  have HBL := mkA (show Below c8.heap.size c8 c8.drew from z13 (Below.refl _ _))
  have HKS := mkA (fun (W' : World) (hb : Below c8.heap.size c8 W') => show W'.cell? ⟨ad2.block, ad2.off + 4, none⟩ = some (.int .i64 (-4)) ∧ W'.cell? ⟨ad2.block, ad2.off + 4 + 1, none⟩ = some (.int .i64 (-3)) ∧ W'.cell? ⟨ad2.block, ad2.off + 6, none⟩ = some (.int .i64 1) ∧ W'.cell? ⟨ad2.block, ad2.off + 6 + 1, none⟩ = some (.int .i64 2) ∧ W'.cell? ⟨c6.heap.size, 0, none⟩ = some (.int .i64 2) ∧ W'.cell? ⟨c6.heap.size, 1, none⟩ = some (.int .i64 3) from by
    obtain ⟨adx, hx, y0, y1⟩ := at_T44 (Kd.C_below HR2.out hb) 2 (by decide) (by decide)
    obtain rfl := Option.some.inj hx
    obtain ⟨ady, hy, y2, y3⟩ := at_T44 (Kd.C_below HR2.out hb) 3 (by decide) (by decide)
    obtain rfl := Option.some.inj hy
    exact ⟨y0, y1, y2, y3, (z12 (blk_below BX.out hb) 0).trans rfl, (z12 (blk_below BX.out hb) 1).trans rfl⟩)
  clear x0 x1 x2 x3
  simp only [List.append_eq, List.cons_append, List.nil_append]
  have HBX1 := mkA (show Below c8.heap.size c8 (c8.alloc (.cells #[.int .i64 3, .int .i64 (-1), .int .i64 (-3), .int .i64 1] 3)).drew from z13 (z10 (Below.refl _ _) _))
  have HSM1 := mkA (pl_same.calls 40 P1 d1 [3, -1, -3, 1] (some ⟨c8.heap.size, 0, none⟩) 4 [3, -1, -3, 1] true (c8.alloc (.cells #[.int .i64 3, .int .i64 (-1), .int .i64 (-3), .int .i64 1] 3)).drew (Kd.C_below HR1.out HBX1.out) q1 (C_ints [3, -1, -3, 1] (by decide) (show (c8.alloc (.cells #[.int .i64 3, .int .i64 (-1), .int .i64 (-3), .int .i64 1] 3)).drew.heap[c8.heap.size]? = some (.cells #[.int .i64 3, .int .i64 (-1), .int .i64 (-3), .int .i64 1] 3 (0, 0)) from z19 c8 _)) (by decide) (by decide +kernel))
  simp only [List.length_cons, List.length_nil, Nat.zero_add, Nat.reduceAdd] at HSM1
  have HR3n := mkA (show Kd.C (Kd.int .i64) c8 P3 4 [2, 3, 1, 2] from HR3.out)
  have HR8n := mkA (show Kd.C (Kd.int .i64) c8 P8 1 [1] from HR8.out)
  have q3n : 4 ≤ d3 := q3
  have q8n : 1 ≤ d8 := q8
  have hs3 : pl_same.f 40 [2, 3, 1, 2] [2, 3, 1, 2] = some true := by decide +kernel
  have hs8 : pl_same.f 40 [1] [1] = some true := by decide +kernel
  have HL3 := mkA (fun (W : World) => show Kd.C (Kd.int .i64) (W.alloc (.cells #[.int .i64 2, .int .i64 3, .int .i64 1, .int .i64 2] 3)) (some ⟨W.heap.size, 0, none⟩) 4 [2, 3, 1, 2] from C_ints [2, 3, 1, 2] (by decide) (z19 W _))
  have HL8 := mkA (fun (W : World) => show Kd.C (Kd.int .i64) (W.alloc (.cells #[.int .i64 1] 3)) (some ⟨W.heap.size, 0, none⟩) 1 [1] from C_ints [1] (by decide) (z19 W _))
  focus
    refine wp_region_held_drew (S := (fun W' => W'.cell? ⟨ad2.block, ad2.off + 4, none⟩ = some (.int .i64 (-4)) ∧ W'.cell? ⟨ad2.block, ad2.off + 4 + 1, none⟩ = some (.int .i64 (-3)) ∧ W'.cell? ⟨ad2.block, ad2.off + 6, none⟩ = some (.int .i64 1) ∧ W'.cell? ⟨ad2.block, ad2.off + 6 + 1, none⟩ = some (.int .i64 2) ∧ W'.cell? ⟨c6.heap.size, 0, none⟩ = some (.int .i64 2) ∧ W'.cell? ⟨c6.heap.size, 1, none⟩ = some (.int .i64 3))) (by kernel_rfl) ?_ (fun hHeld => ?_)
    · (try dsimp only); exact HKS.out _ HBL.out
    refine tk (v := ?_) 0 hHeld rfl (by kernel_rfl) (fun _ _ _ h => h) (Or.inl ⟨?tkh, ?tky⟩) ?_
    case tkh => rfl
    case tky => intro w hSw; (try dsimp only at hSw); go_simp; (try with_reducible rfl)
    try simp only [Act.put, xq1, xq2, xq3]
    refine tk (v := ?_) 1 hHeld rfl (by kernel_rfl) (fun _ _ _ h => h) (Or.inl ⟨?tkh, ?tky⟩) ?_
    case tkh => rfl
    case tky => intro w hSw; (try dsimp only at hSw); go_simp; (try with_reducible rfl)
    try simp only [Act.put, xq1, xq2, xq3]
    refine tk (v := ?_) 2 hHeld rfl (by kernel_rfl) (fun _ _ _ h => h) (Or.inl ⟨?tkh, ?tky⟩) ?_
    case tkh => rfl
    case tky => intro w hSw; (try dsimp only at hSw); go_simp; (try with_reducible rfl)
    try simp only [Act.put, xq1, xq2, xq3]
    refine tk (v := ?_) 3 hHeld rfl (by kernel_rfl) (fun _ _ _ h => h) (Or.inl ⟨?tkh, ?tky⟩) ?_
    case tkh => rfl
    case tky => intro w hSw; (try dsimp only at hSw); go_simp; (try with_reducible rfl)
    try simp only [Act.put, xq1, xq2, xq3]
    refine wpAnyH_ready (rs := [4]) (by kernel_rfl) (by simp) (cs rfl (fun K hK => ?_) AllReadyH.nil)
    go_simp
    try simp only [Act.put, xq1, xq2, xq3]
    refine hK.out _ _ ?_ (fun hHeld2 => ?_)
    · (try dsimp only); exact HKS.out _ (z10 HBL.out _)
    clear hK K hHeld; have hHeld := hHeld2; clear hHeld2
    refine wpAnyH_ready (rs := [5]) (by kernel_rfl) (by simp) (cs rfl (fun K hK => ?_) AllReadyH.nil)
    go_simp
    ((go_at_call 42; (with_reducible refine HSM1.out.mono ?_); rintro e w9 ⟨rfl, ⟨mm, hw9⟩⟩; have HBM := mkA (show Below c8.heap.size c8 w9 by rw [hw9]; exact z11 HBX1.out _); clear hw9 HBL; have HBL := HBM; clear HBM; dsimp only))
    try simp only [Act.put, xq1, xq2, xq3]
    refine hK.out _ _ ?_ (fun hHeld2 => ?_)
    · (try dsimp only); exact HKS.out _ HBL.out
    clear hK K hHeld; have hHeld := hHeld2; clear hHeld2
    refine tk (v := ?_) 6 hHeld rfl (by kernel_rfl) (fun _ _ _ h => h) (Or.inl ⟨?tkh, ?tky⟩) ?_
    case tkh => rfl
    case tky => intro w hSw; (try dsimp only at hSw); go_simp; (try with_reducible rfl)
    try simp only [Act.put, xq1, xq2, xq3]
    refine tk (v := ?_) 7 hHeld rfl (by kernel_rfl) (fun _ _ _ h => h) (Or.inl ⟨?tkh, ?tky⟩) ?_
    case tkh => rfl
    case tky => intro w hSw; (try dsimp only at hSw); go_simp; (try with_reducible rfl)
    try simp only [Act.put, xq1, xq2, xq3]
    refine tk (v := ?_) 8 hHeld rfl (by kernel_rfl) (fun _ _ _ h => h) (Or.inl ⟨?tkh, ?tky⟩) ?_
    case tkh => rfl
    case tky => intro w hSw; (try dsimp only at hSw); go_simp; (try with_reducible rfl)
    try simp only [Act.put, xq1, xq2, xq3]
    refine tk (v := ?_) 9 hHeld rfl (by kernel_rfl) (fun _ _ _ h => h) (Or.inl ⟨?tkh, ?tky⟩) ?_
    case tkh => rfl
    case tky => intro w hSw; (try dsimp only at hSw); go_simp; (try with_reducible rfl)
    try simp only [Act.put, xq1, xq2, xq3]
    refine tk (v := ?_) 10 hHeld rfl (by kernel_rfl) (fun _ _ _ h => h) (Or.inl ⟨?tkh, ?tky⟩) ?_
    case tkh => rfl
    case tky => intro w hSw; (try dsimp only at hSw); go_simp; (try with_reducible rfl)
    try simp only [Act.put, xq1, xq2, xq3]
    refine tk (v := ?_) 11 hHeld rfl (by kernel_rfl) (fun _ _ _ h => h) (Or.inl ⟨?tkh, ?tky⟩) ?_
    case tkh => rfl
    case tky => intro w hSw; (try dsimp only at hSw); go_simp; (try with_reducible rfl)
    try simp only [Act.put, xq1, xq2, xq3]
    refine tk (v := ?_) 12 hHeld rfl (by kernel_rfl) (fun _ _ _ h => h) (Or.inl ⟨?tkh, ?tky⟩) ?_
    case tkh => rfl
    case tky => intro w hSw; (try dsimp only at hSw); go_simp; (try with_reducible rfl)
    try simp only [Act.put, xq1, xq2, xq3]
    refine tk (v := ?_) 13 hHeld rfl (by kernel_rfl) (fun _ _ _ h => h) (Or.inl ⟨?tkh, ?tky⟩) ?_
    case tkh => rfl
    case tky => intro w hSw; (try dsimp only at hSw); go_simp; (try with_reducible rfl)
    try simp only [Act.put, xq1, xq2, xq3]
    refine tk (v := ?_) 14 hHeld rfl (by kernel_rfl) (fun _ _ _ h => h) (Or.inl ⟨?tkh, ?tky⟩) ?_
    case tkh => rfl
    case tky => intro w hSw; (try dsimp only at hSw); go_simp; (try with_reducible rfl)
    try simp only [Act.put, xq1, xq2, xq3]
    refine tk (v := ?_) 15 hHeld rfl (by kernel_rfl) (fun _ _ _ h => h) (Or.inl ⟨?tkh, ?tky⟩) ?_
    case tkh => rfl
    case tky => intro w hSw; (try dsimp only at hSw); go_simp; (try with_reducible rfl)
    try simp only [Act.put, xq1, xq2, xq3]
    refine tk (v := ?_) 16 hHeld rfl (by kernel_rfl) (fun _ _ _ h => h) (Or.inl ⟨?tkh, ?tky⟩) ?_
    case tkh => rfl
    case tky => intro w hSw; (try dsimp only at hSw); go_simp; (try with_reducible rfl)
    try simp only [Act.put, xq1, xq2, xq3]
    refine tk (v := ?_) 17 hHeld rfl (by kernel_rfl) (fun _ _ _ h => h) (Or.inl ⟨?tkh, ?tky⟩) ?_
    case tkh => rfl
    case tky => intro w hSw; (try dsimp only at hSw); go_simp; (try with_reducible rfl)
    try simp only [Act.put, xq1, xq2, xq3]
    refine tk (v := ?_) 18 hHeld rfl (by kernel_rfl) (fun _ _ _ h => h) (Or.inl ⟨?tkh, ?tky⟩) ?_
    case tkh => rfl
    case tky => intro w hSw; (try dsimp only at hSw); go_simp; (try with_reducible rfl)
    try simp only [Act.put, xq1, xq2, xq3]
    refine tk (v := ?_) 19 hHeld rfl (by kernel_rfl) (fun _ _ _ h => h) (Or.inl ⟨?tkh, ?tky⟩) ?_
    case tkh => rfl
    case tky => intro w hSw; (try dsimp only at hSw); go_simp; (try with_reducible rfl)
    try simp only [Act.put, xq1, xq2, xq3]
    refine wpAnyH_ready (rs := [20]) (by kernel_rfl) (by simp) (cs rfl (fun K hK => ?_) AllReadyH.nil)
    go_simp
    ((go_at_call 71; (with_reducible refine (pl_between.calls (-4) (-3) (-4) (-3) _ rfl).mono ?_); rintro e w9 ⟨rfl, hb⟩; have HBM := mkA (z16 HBL.out hb); clear hb HBL; have HBL := HBM; clear HBM; dsimp only))
    try simp only [Act.put, xq1, xq2, xq3]
    refine hK.out _ _ ?_ (fun hHeld2 => ?_)
    · (try dsimp only); exact HKS.out _ HBL.out
    clear hK K hHeld; have hHeld := hHeld2; clear hHeld2
    refine tk (v := ?_) 21 hHeld rfl (by kernel_rfl) (fun _ _ _ h => h) (Or.inl ⟨?tkh, ?tky⟩) ?_
    case tkh => rfl
    case tky => intro w hSw; (try dsimp only at hSw); go_simp; (try with_reducible rfl)
    try simp only [Act.put, xq1, xq2, xq3]
    refine tk (v := ?_) 22 hHeld rfl (by kernel_rfl) (fun _ _ _ h => h) (Or.inl ⟨?tkh, ?tky⟩) ?_
    case tkh => rfl
    case tky => intro w hSw; (try dsimp only at hSw); go_simp; (try with_reducible rfl)
    try simp only [Act.put, xq1, xq2, xq3]
    refine tk (v := ?_) 23 hHeld rfl (by kernel_rfl) (fun _ _ _ h => h) (Or.inl ⟨?tkh, ?tky⟩) ?_
    case tkh => rfl
    case tky => intro w hSw; (try dsimp only at hSw); go_simp; (try with_reducible rfl)
    try simp only [Act.put, xq1, xq2, xq3]
    refine tk (v := ?_) 24 hHeld rfl (by kernel_rfl) (fun _ _ _ h => h) (Or.inl ⟨?tkh, ?tky⟩) ?_
    case tkh => rfl
    case tky => intro w hSw; (try dsimp only at hSw); go_simp; (try with_reducible rfl)
    try simp only [Act.put, xq1, xq2, xq3]
    refine tk (v := ?_) 25 hHeld rfl (by kernel_rfl) (fun _ _ _ h => h) (Or.inl ⟨?tkh, ?tky⟩) ?_
    case tkh => rfl
    case tky => intro w hSw; (try dsimp only at hSw); go_simp; (try with_reducible rfl)
    try simp only [Act.put, xq1, xq2, xq3]
    refine tk (v := ?_) 26 hHeld rfl (by kernel_rfl) (fun _ _ _ h => h) (Or.inl ⟨?tkh, ?tky⟩) ?_
    case tkh => rfl
    case tky => intro w hSw; (try dsimp only at hSw); go_simp; (try with_reducible rfl)
    try simp only [Act.put, xq1, xq2, xq3]
    refine wpAnyH_ready (rs := [27]) (by kernel_rfl) (by simp) (cs rfl (fun K hK => ?_) AllReadyH.nil)
    go_simp
    ((go_at_call 71; (with_reducible refine (pl_between.calls (1) (2) (1) (2) _ rfl).mono ?_); rintro e w9 ⟨rfl, hb⟩; have HBM := mkA (z16 HBL.out hb); clear hb HBL; have HBL := HBM; clear HBM; dsimp only))
    try simp only [Act.put, xq1, xq2, xq3]
    refine hK.out _ _ ?_ (fun hHeld2 => ?_)
    · (try dsimp only); exact HKS.out _ HBL.out
    clear hK K hHeld; have hHeld := hHeld2; clear hHeld2
    refine tk (v := ?_) 28 hHeld rfl (by kernel_rfl) (fun _ _ _ h => h) (Or.inl ⟨?tkh, ?tky⟩) ?_
    case tkh => rfl
    case tky => intro w hSw; (try dsimp only at hSw); go_simp; (try with_reducible rfl)
    try simp only [Act.put, xq1, xq2, xq3]
    refine tk (v := ?_) 29 hHeld rfl (by kernel_rfl) (fun _ _ _ h => h) (Or.inl ⟨?tkh, ?tky⟩) ?_
    case tkh => rfl
    case tky => intro w hSw; (try dsimp only at hSw); go_simp; (try with_reducible rfl)
    try simp only [Act.put, xq1, xq2, xq3]
    refine tk (v := ?_) 30 hHeld rfl (by kernel_rfl) (fun _ _ _ h => h) (Or.inl ⟨?tkh, ?tky⟩) ?_
    case tkh => rfl
    case tky => intro w hSw; (try dsimp only at hSw); go_simp; (try with_reducible rfl)
    try simp only [Act.put, xq1, xq2, xq3]
    refine tk (v := ?_) 31 hHeld rfl (by kernel_rfl) (fun _ _ _ h => h) (Or.inl ⟨?tkh, ?tky⟩) ?_
    case tkh => rfl
    case tky => intro w hSw; (try dsimp only at hSw); go_simp; (try with_reducible rfl)
    try simp only [Act.put, xq1, xq2, xq3]
    refine tk (v := ?_) 32 hHeld rfl (by kernel_rfl) (fun _ _ _ h => h) (Or.inl ⟨?tkh, ?tky⟩) ?_
    case tkh => rfl
    case tky => intro w hSw; (try dsimp only at hSw); go_simp; (try with_reducible rfl)
    try simp only [Act.put, xq1, xq2, xq3]
    refine tk (v := ?_) 33 hHeld rfl (by kernel_rfl) (fun _ _ _ h => h) (Or.inl ⟨?tkh, ?tky⟩) ?_
    case tkh => rfl
    case tky => intro w hSw; (try dsimp only at hSw); go_simp; (try with_reducible rfl)
    try simp only [Act.put, xq1, xq2, xq3]
    refine tk (v := ?_) 34 hHeld rfl (by kernel_rfl) (fun _ _ _ h => h) (Or.inl ⟨?tkh, ?tky⟩) ?_
    case tkh => rfl
    case tky => intro w hSw; (try dsimp only at hSw); go_simp; (try with_reducible rfl)
    try simp only [Act.put, xq1, xq2, xq3]
    refine tk (v := ?_) 35 hHeld rfl (by kernel_rfl) (fun _ _ _ h => h) (Or.inl ⟨?tkh, ?tky⟩) ?_
    case tkh => rfl
    case tky => intro w hSw; (try dsimp only at hSw); go_simp; (try with_reducible rfl)
    try simp only [Act.put, xq1, xq2, xq3]
    refine wpAnyH_ready (rs := [36]) (by kernel_rfl) (by simp) (cs rfl (fun K hK => ?_) AllReadyH.nil)
    go_simp
    try simp only [Act.put, xq1, xq2, xq3]
    refine hK.out _ _ ?_ (fun hHeld2 => ?_)
    · (try dsimp only); exact HKS.out _ (z10 HBL.out _)
    clear hK K hHeld; have hHeld := hHeld2; clear hHeld2
    refine wpAnyH_ready (rs := [37]) (by kernel_rfl) (by simp) (cs rfl (fun K hK => ?_) AllReadyH.nil)
    go_simp
    ((go_at_call 42; (with_reducible refine (same_at P3 d3 [2, 3, 1, 2] 4 _ _ (Kd.C_below HR3n.out (z10 HBL.out _)) q3n (HL3.out _) hs3).mono ?_); rintro e w9 ⟨rfl, ⟨mm, hw9⟩⟩; have HBM := mkA (show Below c8.heap.size c8 w9 by rw [hw9]; exact z11 (z10 HBL.out _) _); clear hw9 HBL; have HBL := HBM; clear HBM; dsimp only))
    try simp only [Act.put, xq1, xq2, xq3]
    refine hK.out _ _ ?_ (fun hHeld2 => ?_)
    · (try dsimp only); exact HKS.out _ HBL.out
    clear hK K hHeld; have hHeld := hHeld2; clear hHeld2
    refine tk (v := ?_) 38 hHeld rfl (by kernel_rfl) (fun _ _ _ h => h) (Or.inl ⟨?tkh, ?tky⟩) ?_
    case tkh => rfl
    case tky => intro w hSw; (try dsimp only at hSw); go_simp; (try with_reducible rfl)
    try simp only [Act.put, xq1, xq2, xq3]
    refine tk (v := ?_) 39 hHeld rfl (by kernel_rfl) (fun _ _ _ h => h) (Or.inl ⟨?tkh, ?tky⟩) ?_
    case tkh => rfl
    case tky => intro w hSw; (try dsimp only at hSw); go_simp; (try with_reducible rfl)
    try simp only [Act.put, xq1, xq2, xq3]
    refine tk (v := ?_) 40 hHeld rfl (by kernel_rfl) (fun _ _ _ h => h) (Or.inl ⟨?tkh, ?tky⟩) ?_
    case tkh => rfl
    case tky => intro w hSw; (try dsimp only at hSw); go_simp; (try with_reducible rfl)
    try simp only [Act.put, xq1, xq2, xq3]
    refine tk (v := ?_) 41 hHeld rfl (by kernel_rfl) (fun _ _ _ h => h) (Or.inl ⟨?tkh, ?tky⟩) ?_
    case tkh => rfl
    case tky => intro w hSw; (try dsimp only at hSw); go_simp; (try with_reducible rfl)
    try simp only [Act.put, xq1, xq2, xq3]
    refine tk (v := ?_) 42 hHeld rfl (by kernel_rfl) (fun _ _ _ h => h) (Or.inl ⟨?tkh, ?tky⟩) ?_
    case tkh => rfl
    case tky => intro w hSw; (try dsimp only at hSw); go_simp; (try with_reducible rfl)
    try simp only [Act.put, xq1, xq2, xq3]
    refine tk (v := ?_) 43 hHeld rfl (by kernel_rfl) (fun _ _ _ h => h) (Or.inl ⟨?tkh, ?tky⟩) ?_
    case tkh => rfl
    case tky => intro w hSw; (try dsimp only at hSw); go_simp; (try with_reducible rfl)
    try simp only [Act.put, xq1, xq2, xq3]
    refine tk (v := ?_) 44 hHeld rfl (by kernel_rfl) (fun _ _ _ h => h) (Or.inl ⟨?tkh, ?tky⟩) ?_
    case tkh => rfl
    case tky => intro w hSw; (try dsimp only at hSw); go_simp; (try with_reducible rfl)
    try simp only [Act.put, xq1, xq2, xq3]
    refine tk (v := ?_) 45 hHeld rfl (by kernel_rfl) (fun _ _ _ h => h) (Or.inl ⟨?tkh, ?tky⟩) ?_
    case tkh => rfl
    case tky => intro w hSw; (try dsimp only at hSw); go_simp; (try with_reducible rfl)
    try simp only [Act.put, xq1, xq2, xq3]
    refine tk (v := ?_) 46 hHeld rfl (by kernel_rfl) (fun _ _ _ h => h) (Or.inl ⟨?tkh, ?tky⟩) ?_
    case tkh => rfl
    case tky => intro w hSw; (try dsimp only at hSw); go_simp; (try with_reducible rfl)
    try simp only [Act.put, xq1, xq2, xq3]
    refine tk (v := ?_) 47 hHeld rfl (by kernel_rfl) (fun _ _ _ h => h) (Or.inl ⟨?tkh, ?tky⟩) ?_
    case tkh => rfl
    case tky => intro w hSw; (try dsimp only at hSw); go_simp; (try with_reducible rfl)
    try simp only [Act.put, xq1, xq2, xq3]
    refine tk (v := ?_) 48 hHeld rfl (by kernel_rfl) (fun _ _ _ h => h) (Or.inl ⟨?tkh, ?tky⟩) ?_
    case tkh => rfl
    case tky => intro w hSw; (try dsimp only at hSw); go_simp; (try with_reducible rfl)
    try simp only [Act.put, xq1, xq2, xq3]
    refine tk (v := ?_) 49 hHeld rfl (by kernel_rfl) (fun _ _ _ h => h) (Or.inl ⟨?tkh, ?tky⟩) ?_
    case tkh => rfl
    case tky => intro w hSw; (try dsimp only at hSw); go_simp; (try with_reducible rfl)
    try simp only [Act.put, xq1, xq2, xq3]
    refine tk (v := ?_) 50 hHeld rfl (by kernel_rfl) (fun _ _ _ h => h) (Or.inl ⟨?tkh, ?tky⟩) ?_
    case tkh => rfl
    case tky => intro w hSw; (try dsimp only at hSw); go_simp; (try with_reducible rfl)
    try simp only [Act.put, xq1, xq2, xq3]
    refine tk (v := ?_) 51 hHeld rfl (by kernel_rfl) (fun _ _ _ h => h) (Or.inl ⟨?tkh, ?tky⟩) ?_
    case tkh => rfl
    case tky => intro w hSw; (try dsimp only at hSw); go_simp; (try with_reducible rfl)
    try simp only [Act.put, xq1, xq2, xq3]
    refine tk (v := ?_) 52 hHeld rfl (by kernel_rfl) (fun _ _ _ h => h) (Or.inl ⟨?tkh, ?tky⟩) ?_
    case tkh => rfl
    case tky => intro w hSw; (try dsimp only at hSw); go_simp; (try with_reducible rfl)
    try simp only [Act.put, xq1, xq2, xq3]
    refine tk (v := ?_) 53 hHeld rfl (by kernel_rfl) (fun _ _ _ h => h) (Or.inl ⟨?tkh, ?tky⟩) ?_
    case tkh => rfl
    case tky => intro w hSw; (try dsimp only at hSw); go_simp; (try with_reducible rfl)
    try simp only [Act.put, xq1, xq2, xq3]
    refine tk (v := ?_) 54 hHeld rfl (by kernel_rfl) (fun _ _ _ h => h) (Or.inl ⟨?tkh, ?tky⟩) ?_
    case tkh => rfl
    case tky => intro w hSw; (try dsimp only at hSw); go_simp; (try with_reducible rfl)
    try simp only [Act.put, xq1, xq2, xq3]
    refine tk (v := ?_) 55 hHeld rfl (by kernel_rfl) (fun _ _ _ h => h) (Or.inl ⟨?tkh, ?tky⟩) ?_
    case tkh => rfl
    case tky => intro w hSw; (try dsimp only at hSw); go_simp; (try with_reducible rfl)
    try simp only [Act.put, xq1, xq2, xq3]
    refine tk (v := ?_) 56 hHeld rfl (by kernel_rfl) (fun _ _ _ h => h) (Or.inl ⟨?tkh, ?tky⟩) ?_
    case tkh => rfl
    case tky => intro w hSw; (try dsimp only at hSw); go_simp; (try with_reducible rfl)
    try simp only [Act.put, xq1, xq2, xq3]
    refine tk (v := ?_) 57 hHeld rfl (by kernel_rfl) (fun _ _ _ h => h) (Or.inl ⟨?tkh, ?tky⟩) ?_
    case tkh => rfl
    case tky => intro w hSw; (try dsimp only at hSw); go_simp; (try with_reducible rfl)
    try simp only [Act.put, xq1, xq2, xq3]
    refine tk (v := ?_) 58 hHeld rfl (by kernel_rfl) (fun _ _ _ h => h) (Or.inl ⟨?tkh, ?tky⟩) ?_
    case tkh => rfl
    case tky => intro w hSw; (try dsimp only at hSw); go_simp; (try with_reducible rfl)
    try simp only [Act.put, xq1, xq2, xq3]
    refine tk (v := ?_) 59 hHeld rfl (by kernel_rfl) (fun _ _ _ h => h) (Or.inl ⟨?tkh, ?tky⟩) ?_
    case tkh => rfl
    case tky => intro w hSw; (try dsimp only at hSw); go_simp; (try with_reducible rfl)
    try simp only [Act.put, xq1, xq2, xq3]
    refine tk (v := ?_) 60 hHeld rfl (by kernel_rfl) (fun _ _ _ h => h) (Or.inl ⟨?tkh, ?tky⟩) ?_
    case tkh => rfl
    case tky => intro w hSw; (try dsimp only at hSw); go_simp; (try with_reducible rfl)
    try simp only [Act.put, xq1, xq2, xq3]
    refine tk (v := ?_) 61 hHeld rfl (by kernel_rfl) (fun _ _ _ h => h) (Or.inl ⟨?tkh, ?tky⟩) ?_
    case tkh => rfl
    case tky => intro w hSw; (try dsimp only at hSw); go_simp; (try with_reducible rfl)
    try simp only [Act.put, xq1, xq2, xq3]
    refine tk (v := ?_) 62 hHeld rfl (by kernel_rfl) (fun _ _ _ h => h) (Or.inl ⟨?tkh, ?tky⟩) ?_
    case tkh => rfl
    case tky => intro w hSw; (try dsimp only at hSw); go_simp; (try with_reducible rfl)
    try simp only [Act.put, xq1, xq2, xq3]
    refine wpAnyH_ready (rs := [63]) (by kernel_rfl) (by simp) (cs rfl (fun K hK => ?_) AllReadyH.nil)
    go_simp
    ((go_at_call 71; (with_reducible refine (pl_between.calls (2) (3) (2) (3) _ rfl).mono ?_); rintro e w9 ⟨rfl, hb⟩; have HBM := mkA (z16 HBL.out hb); clear hb HBL; have HBL := HBM; clear HBM; dsimp only))
    try simp only [Act.put, xq1, xq2, xq3]
    refine hK.out _ _ ?_ (fun hHeld2 => ?_)
    · (try dsimp only); exact HKS.out _ HBL.out
    clear hK K hHeld; have hHeld := hHeld2; clear hHeld2
    refine tk (v := ?_) 64 hHeld rfl (by kernel_rfl) (fun _ _ _ h => h) (Or.inl ⟨?tkh, ?tky⟩) ?_
    case tkh => rfl
    case tky => intro w hSw; (try dsimp only at hSw); go_simp; (try with_reducible rfl)
    try simp only [Act.put, xq1, xq2, xq3]
    refine tk (v := ?_) 65 hHeld rfl (by kernel_rfl) (fun _ _ _ h => h) (Or.inl ⟨?tkh, ?tky⟩) ?_
    case tkh => rfl
    case tky => intro w hSw; (try dsimp only at hSw); go_simp; (try with_reducible rfl)
    try simp only [Act.put, xq1, xq2, xq3]
    refine tk (v := ?_) 66 hHeld rfl (by kernel_rfl) (fun _ _ _ h => h) (Or.inl ⟨?tkh, ?tky⟩) ?_
    case tkh => rfl
    case tky => intro w hSw; (try dsimp only at hSw); go_simp; (try with_reducible rfl)
    try simp only [Act.put, xq1, xq2, xq3]
    refine tk (v := ?_) 67 hHeld rfl (by kernel_rfl) (fun _ _ _ h => h) (Or.inl ⟨?tkh, ?tky⟩) ?_
    case tkh => rfl
    case tky => intro w hSw; (try dsimp only at hSw); go_simp; (try with_reducible rfl)
    try simp only [Act.put, xq1, xq2, xq3]
    refine tk (v := ?_) 68 hHeld rfl (by kernel_rfl) (fun _ _ _ h => h) (Or.inl ⟨?tkh, ?tky⟩) ?_
    case tkh => rfl
    case tky => intro w hSw; (try dsimp only at hSw); go_simp; (try with_reducible rfl)
    try simp only [Act.put, xq1, xq2, xq3]
    refine tk (v := ?_) 69 hHeld rfl (by kernel_rfl) (fun _ _ _ h => h) (Or.inl ⟨?tkh, ?tky⟩) ?_
    case tkh => rfl
    case tky => intro w hSw; (try dsimp only at hSw); go_simp; (try with_reducible rfl)
    try simp only [Act.put, xq1, xq2, xq3]
    refine tk (v := ?_) 70 hHeld rfl (by kernel_rfl) (fun _ _ _ h => h) (Or.inl ⟨?tkh, ?tky⟩) ?_
    case tkh => rfl
    case tky => intro w hSw; (try dsimp only at hSw); go_simp; (try with_reducible rfl)
    try simp only [Act.put, xq1, xq2, xq3]
    refine tk (v := ?_) 71 hHeld rfl (by kernel_rfl) (fun _ _ _ h => h) (Or.inl ⟨?tkh, ?tky⟩) ?_
    case tkh => rfl
    case tky => intro w hSw; (try dsimp only at hSw); go_simp; (try with_reducible rfl)
    try simp only [Act.put, xq1, xq2, xq3]
    refine tk (v := ?_) 72 hHeld rfl (by kernel_rfl) (fun _ _ _ h => h) (Or.inl ⟨?tkh, ?tky⟩) ?_
    case tkh => rfl
    case tky => intro w hSw; (try dsimp only at hSw); go_simp; (try with_reducible rfl)
    try simp only [Act.put, xq1, xq2, xq3]
    refine tk (v := ?_) 73 hHeld rfl (by kernel_rfl) (fun _ _ _ h => h) (Or.inl ⟨?tkh, ?tky⟩) ?_
    case tkh => rfl
    case tky => intro w hSw; (try dsimp only at hSw); go_simp; (try with_reducible rfl)
    try simp only [Act.put, xq1, xq2, xq3]
    refine tk (v := ?_) 74 hHeld rfl (by kernel_rfl) (fun _ _ _ h => h) (Or.inl ⟨?tkh, ?tky⟩) ?_
    case tkh => rfl
    case tky => intro w hSw; (try dsimp only at hSw); go_simp; (try with_reducible rfl)
    try simp only [Act.put, xq1, xq2, xq3]
    refine tk (v := ?_) 75 hHeld rfl (by kernel_rfl) (fun _ _ _ h => h) (Or.inl ⟨?tkh, ?tky⟩) ?_
    case tkh => rfl
    case tky => intro w hSw; (try dsimp only at hSw); go_simp; (try with_reducible rfl)
    try simp only [Act.put, xq1, xq2, xq3]
    refine tk (v := ?_) 76 hHeld rfl (by kernel_rfl) (fun _ _ _ h => h) (Or.inl ⟨?tkh, ?tky⟩) ?_
    case tkh => rfl
    case tky => intro w hSw; (try dsimp only at hSw); go_simp; (try with_reducible rfl)
    try simp only [Act.put, xq1, xq2, xq3]
    refine tk (v := ?_) 77 hHeld rfl (by kernel_rfl) (fun _ _ _ h => h) (Or.inl ⟨?tkh, ?tky⟩) ?_
    case tkh => rfl
    case tky => intro w hSw; (try dsimp only at hSw); go_simp; (try with_reducible rfl)
    try simp only [Act.put, xq1, xq2, xq3]
    refine tk (v := ?_) 78 hHeld rfl (by kernel_rfl) (fun _ _ _ h => h) (Or.inl ⟨?tkh, ?tky⟩) ?_
    case tkh => rfl
    case tky => intro w hSw; (try dsimp only at hSw); go_simp; (try with_reducible rfl)
    try simp only [Act.put, xq1, xq2, xq3]
    refine tk (v := ?_) 79 hHeld rfl (by kernel_rfl) (fun _ _ _ h => h) (Or.inl ⟨?tkh, ?tky⟩) ?_
    case tkh => rfl
    case tky => intro w hSw; (try dsimp only at hSw); go_simp; (try with_reducible rfl)
    try simp only [Act.put, xq1, xq2, xq3]
    refine wpAnyH_ready (rs := [80]) (by kernel_rfl) (by simp) (cs rfl (fun K hK => ?_) AllReadyH.nil)
    go_simp
    try simp only [Act.put, xq1, xq2, xq3]
    refine hK.out _ _ ?_ (fun hHeld2 => ?_)
    · (try dsimp only); exact HKS.out _ (z10 HBL.out _)
    clear hK K hHeld; have hHeld := hHeld2; clear hHeld2
    refine wpAnyH_ready (rs := [81]) (by kernel_rfl) (by simp) (cs rfl (fun K hK => ?_) AllReadyH.nil)
    go_simp
    ((go_at_call 42; (with_reducible refine (same_at P8 d8 [1] 1 _ _ (Kd.C_below HR8n.out (z10 HBL.out _)) q8n (HL8.out _) hs8).mono ?_); rintro e w9 ⟨rfl, ⟨mm, hw9⟩⟩; have HBM := mkA (show Below c8.heap.size c8 w9 by rw [hw9]; exact z11 (z10 HBL.out _) _); clear hw9 HBL; have HBL := HBM; clear HBM; dsimp only))
    try simp only [Act.put, xq1, xq2, xq3]
    refine hK.out _ _ ?_ (fun hHeld2 => ?_)
    · (try dsimp only); exact HKS.out _ HBL.out
    clear hK K hHeld; have hHeld := hHeld2; clear hHeld2
    refine tk (v := ?_) 82 hHeld rfl (by kernel_rfl) (fun _ _ _ h => h) (Or.inl ⟨?tkh, ?tky⟩) ?_
    case tkh => rfl
    case tky => intro w hSw; (try dsimp only at hSw); go_simp; (try with_reducible rfl)
    try simp only [Act.put, xq1, xq2, xq3]
    refine tk (v := ?_) 83 hHeld rfl (by kernel_rfl) (fun _ _ _ h => h) (Or.inl ⟨?tkh, ?tky⟩) ?_
    case tkh => rfl
    case tky => intro w hSw; (try dsimp only at hSw); go_simp; (try with_reducible rfl)
    try simp only [Act.put, xq1, xq2, xq3]
    refine wpAnyH_done (by kernel_rfl) ?_ _
  all_goals
    go_wp2
    go_ret
    exact ⟨rfl, z16 HC8.out HBL.out⟩
end Go.Proofs.Ytncaadckehikpaa.Q
