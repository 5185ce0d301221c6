/- A part of the proof: contracts of functions and plain facts (HIter1, HIter2). No condition. -/
import Derived.Test.YtncaadckehikpaaM6
namespace Go.Proofs.Ytncaadckehikpaa.Q
open Go.RowKit Go.Proofs.YtncaadckehikpaaW.PrintWords Go.Proofs.YtncaadckehikpaaW.PrintLast Go.Proofs.YtncaadckehikpaaW.PrintMore
set_option linter.unusedVariables false
set_option linter.unusedSimpArgs false
attribute [local go_sem] Oper.semAt_some
/-- Ounces that are fit for the first entries. -/
def FitTo (l1 : List S122) (os : List Int) (i : Int) : Prop := ∀ j : Int, 0 ≤ j → j < i → (rd_T122 l1 j).f2.f0 ≤ rd os j ∧ rd os j ≤ (rd_T122 l1 j).f2.f1
/-- What the inner function's call comes to. -/
def ChoosePost (w0 : World) (l bs y : Nat) (n : Int) (A1 : Option Addr) (c1 : Nat) (l1 : List S122) (A2 : Option Addr) (c2 : Nat) (l2 : List S124) (J Jx : List (List Int) → World → Prop) (i : Int) (os : List Int) (pre : List (List Int)) (e : Ending) (W' : World) : Prop :=
  ∃ b, e = .returned (.bool b) ∧ (b = true → J (pre ++ enumO (os.take i.toNat) (l1.drop i.toNat)) W' ∧ ∃ os', os'.length = l1.length ∧ os'.take i.toNat = os.take i.toNat ∧ IterAt w0 l bs y n A1 c1 l1 A2 c2 l2 os' W') ∧
        (b = false → ∃ q, q <+: enumO (os.take i.toNat) (l1.drop i.toNat) ∧ Jx (pre ++ q) W')
theorem IterAt.set {w0 : World} {l bs y : Nat} {n : Int} {A1 : Option Addr} {c1 : Nat} {l1 : List S122} {A2 : Option Addr} {c2 : Nat} {l2 : List S124} {os : List Int} {W : World} (h : IterAt w0 l bs y n A1 c1 l1 A2 c2 l2 os W) (hyb : w0.heap.size ≤ y) (hbs : bs < y) (i x : Int) :
    IterAt w0 l bs y n A1 c1 l1 A2 c2 l2 (upd os i x) (W.setCell ⟨y + 1, i.toNat, none⟩ (.int .i64 x)) :=
  ⟨z15 h.below (show w0.heap.size ≤ y + 1 by omega), (Below.heap_setCell _ _ _ _ (show bs ≠ y + 1 by omega)).trans h.slate, (Below.heap_setCell _ _ _ _ (show y ≠ y + 1 by omega)).trans h.yield, blk_set os h.row i x, (Below.heap_setCell _ _ _ _ (show y + 2 ≠ y + 1 by omega)).trans h.now, (Below.heap_setCell _ _ _ _ (show y + 3 ≠ y + 1 by omega)).trans h.choose⟩
theorem upd_take (os : List Int) (i x : Int) (h0 : 0 ≤ i) (h : i < os.length) : (upd os i x).take (i + 1).toNat = os.take i.toNat ++ [x] := by
  unfold upd
  rw [show (i + 1).toNat = i.toNat + 1 by omega, List.take_add_one, List.take_set_of_le (by omega)]
  simp [show i.toNat < os.length by omega]
theorem upd_fit {l1 : List S122} {os : List Int} {i x : Int} (h0 : 0 ≤ i) (hi : i < os.length) (h : FitTo l1 os i) (hx : (rd_T122 l1 i).f2.f0 ≤ x ∧ x ≤ (rd_T122 l1 i).f2.f1) : FitTo l1 (upd os i x) (i + 1) := by
  intro j q0 q1
  rw [rd_upd _ _ _ _ h0 hi q0]
  by_cases hj : j = i
  · rw [if_pos hj, hj]; exact hx
  · rw [if_neg hj]; exact h j q0 (by omega)
set_option maxHeartbeats 4000000 in
set_option maxRecDepth 100000 in
theorem choose_calls (w0 : World) (l bs y : Nat) (n : Int) (A1 : Option Addr) (c1 : Nat) (l1 : List S122) (A2 : Option Addr) (c2 : Nat) (l2 : List S124) (hck : checkS n l1 l2 = 0)
    (hr1 : Kd.C k122 w0 A1 l1.length l1) (hc1 : l1.length ≤ c1) (hyb : w0.heap.size ≤ y) (hbs : bs < y) (all : List (List Int)) (J Jx : List (List Int) → World → Prop) (hJ : ∀ pre W W', J pre W → Zone y W W' → J pre W')
    (hY : ∀ pre os W1, J pre W1 → IterAt w0 l bs y n A1 c1 l1 A2 c2 l2 os W1 → os.length = l1.length → FitTo l1 os l1.length → pre ++ [os] <+: all → YieldAt Fence.wide 2 Try.prog l #[aggV (owedL l1 os)] W1 fun e W' =>
      ∃ b, e = .returned (.bool b) ∧ (b = true → J (pre ++ [os]) W' ∧ IterAt w0 l bs y n A1 c1 l1 A2 c2 l2 os W') ∧ (b = false → Jx (pre ++ [os]) W')) :
    ∀ (k : Nat) (i : Int) (os : List Int) (pre : List (List Int)) (W : World), 0 ≤ i → i + k = l1.length → os.length = l1.length → FitTo l1 os i → IterAt w0 l bs y n A1 c1 l1 A2 c2 l2 os W → J pre W → pre ++ enumO (os.take i.toNat) (l1.drop i.toNat) <+: all →
    CallsIn Fence.wide 3 Try.prog 130 #[.int .i64 i, .pointer (some ⟨bs, 0, none⟩), .pointer (some ⟨y, 0, none⟩), .pointer (some ⟨y + 2, 0, none⟩), .pointer (some ⟨y + 3, 0, none⟩)] W (ChoosePost w0 l bs y n A1 c1 l1 A2 c2 l2 J Jx i os pre) := by
  intro k
  have hu35 := Try.underlying35
  have hu122 := Try.underlying122
  have hu128 := Try.underlying128
  have hu44 := Try.underlying44
  have HR1 := mkA hr1
  have HCK := mkA hck
  have HYY := mkA hY
  have HJJ := mkA hJ
  obtain ⟨z0, z1, z2, z3, z4, z5, z6⟩ := z28 hck
  clear hr1 hck hY hJ z4 z5 z6
  induction k with
  | zero =>
    intro i os pre W hi0 hik hol hfit hit hj hpre
    obtain rfl : i = l1.length := by omega
    have HIT := mkA hit
    have HJP := mkA hj
    have HFT := mkA hfit
    have hs1 : W.cell? ⟨bs, 1, none⟩ = some (.slice A1 l1.length c1) := (z12 HIT.out.slate 1).trans rfl
    clear hit hj hfit
    have g1 : ((l1.length : Int) == (l1.length : Int)) = true := by simp
    refine callsIn_of_wp Try.func130 rfl trivial ?_
    simp only [Try.ntmps130, List.size_toArray, List.length_cons, List.length_nil, Nat.reduceAdd, Nat.reduceSub, Array.replicate_succ, Array.replicate_zero, List.push_toArray, List.append_toArray, List.nil_append, List.cons_append]
    gi_wp2
    have HITD := mkA (HIT.out.belowW (z13 (Below.refl _ W)))
    have HJD := mkA (HJJ.out _ _ _ HJP.out (Zone.of_below (z13 (Below.refl _ W))))
    have k0 : W.drew.cell? ⟨bs, 0, none⟩ = some (.int .i64 n) := (z12 HITD.out.slate 0).trans rfl
    have k1 : W.drew.cell? ⟨bs, 1, none⟩ = some (.slice A1 l1.length c1) := (z12 HITD.out.slate 1).trans rfl
    have k2 : W.drew.cell? ⟨bs, 2, none⟩ = some (.slice A2 l2.length c2) := (z12 HITD.out.slate 2).trans rfl
    have k3 : W.drew.cell? ⟨y, 0, none⟩ = some (.func (.yield l) #[] #[]) := (z12 HITD.out.yield 0).trans rfl
    have k4 : W.drew.cell? ⟨y + 2, 0, none⟩ = some (.slice (some ⟨y + 1, 0, none⟩) l1.length l1.length) := (z12 HITD.out.now 0).trans rfl
    have HOW := mkA (owed_core n A1 c1 l1 A2 c2 l2 (some ⟨y + 1, 0, none⟩) l1.length os W.drew (Kd.C_below HR1.out HITD.out.below) hc1 (by
      have := C_ints os (by omega) HITD.out.row
      exact this) (by omega) hol z2 (fun j q0 q1 => by
        have := entry_in HCK.out j q0 q1
        have := HFT.out j q0 q1
        omega))
    rw [hol] at HOW
    have HYA := mkA (fun W1 (h1 : J pre W1) (h2 : IterAt w0 l bs y n A1 c1 l1 A2 c2 l2 os W1) => HYY.out pre os W1 h1 h2 hol HFT.out (by
      have h3 := hpre
      simp only [Int.toNat_natCast, List.drop_length, enumO] at h3
      rw [← hol, List.take_length] at h3
      exact h3))
    unfold aggV at HYA HOW
    clear HYY hpre
    focus
      refine wpIn_region_any (by kernel_rfl) ?_
      try (change wpAnyIn _ _ _ _ _ _ _ _ _ (World.drew _))
      refine wpAnyIn_ready (rs := [0, 1, 2]) (by kernel_rfl) (by simp) (AllReadyIn.cons rfl (fun K hK => ?_) (AllReadyIn.cons rfl (fun K hK => ?_) (AllReadyIn.cons rfl (fun K hK => ?_) AllReadyIn.nil)))
      go_simp
      (refine hK _ _ ?_; clear hK K)
      refine wpAnyIn_ready (rs := [1, 2]) (by kernel_rfl) (by simp) (AllReadyIn.cons rfl (fun K hK => ?_) (AllReadyIn.cons rfl (fun K hK => ?_) AllReadyIn.nil))
      go_simp
      (refine hK _ _ ?_; clear hK K)
      refine wpAnyIn_ready (rs := [2]) (by kernel_rfl) (by simp) (AllReadyIn.cons rfl (fun K hK => ?_) AllReadyIn.nil)
      go_simp
      (refine hK _ _ ?_; clear hK K)
      refine wpAnyIn_ready (rs := [3]) (by kernel_rfl) (by simp) (AllReadyIn.cons rfl (fun K hK => ?_) AllReadyIn.nil)
      go_simp
      ((refine ⟨trivial, ?_⟩); (refine (callsIn_wide.2 HOW.out).mono ?_); rintro e w2 ⟨rfl, hb2⟩; have HIT2 := mkA (HITD.out.belowW hb2); have HJ2 := mkA (HJJ.out _ _ _ HJD.out (Zone.of_below hb2)); clear hb2; have m3 : w2.cell? ⟨y, 0, none⟩ = some (.func (.yield l) #[] #[]) := (z12 HIT2.out.yield 0).trans rfl; obtain ⟨fn, tmps, assign, body, hy, hR⟩ := HYA.out w2 HJ2.out HIT2.out; have HRN := mkA hR; clear hR; dsimp only)
      (refine hK _ _ ?_; clear hK K)
      refine wpAnyIn_ready (rs := [4]) (by kernel_rfl) (by simp) (AllReadyIn.cons rfl (fun K hK => ?_) AllReadyIn.nil)
      go_simp
      ((refine HRN.out.mono ?_); rintro e w3 ⟨b, rfl, hb⟩; have HB3 := mkA hb; clear hb; dsimp only)
      (refine hK _ _ ?_; clear hK K)
      refine wpAnyIn_ready (rs := [5]) (by kernel_rfl) (by simp) (AllReadyIn.cons rfl (fun K hK => ?_) AllReadyIn.nil)
      go_simp
      (refine hK _ _ ?_; clear hK K)
      refine wpAnyIn_done (by kernel_rfl) ?_ _
      rotate_left
      go_simp
      (refine hK _ _ ?_; clear hK K)
      refine wpAnyIn_ready (rs := [1]) (by kernel_rfl) (by simp) (AllReadyIn.cons rfl (fun K hK => ?_) AllReadyIn.nil)
      go_simp
      (refine hK _ _ ?_; clear hK K)
      refine wpAnyIn_ready (rs := [3]) (by kernel_rfl) (by simp) (AllReadyIn.cons rfl (fun K hK => ?_) AllReadyIn.nil)
      go_simp
      ((refine ⟨trivial, ?_⟩); (refine (callsIn_wide.2 HOW.out).mono ?_); rintro e w2 ⟨rfl, hb2⟩; have HIT2 := mkA (HITD.out.belowW hb2); have HJ2 := mkA (HJJ.out _ _ _ HJD.out (Zone.of_below hb2)); clear hb2; have m3 : w2.cell? ⟨y, 0, none⟩ = some (.func (.yield l) #[] #[]) := (z12 HIT2.out.yield 0).trans rfl; obtain ⟨fn, tmps, assign, body, hy, hR⟩ := HYA.out w2 HJ2.out HIT2.out; have HRN := mkA hR; clear hR; dsimp only)
      (refine hK _ _ ?_; clear hK K)
      refine wpAnyIn_ready (rs := [4]) (by kernel_rfl) (by simp) (AllReadyIn.cons rfl (fun K hK => ?_) AllReadyIn.nil)
      go_simp
      ((refine HRN.out.mono ?_); rintro e w3 ⟨b, rfl, hb⟩; have HB3 := mkA hb; clear hb; dsimp only)
      (refine hK _ _ ?_; clear hK K)
      refine wpAnyIn_ready (rs := [5]) (by kernel_rfl) (by simp) (AllReadyIn.cons rfl (fun K hK => ?_) AllReadyIn.nil)
      go_simp
      (refine hK _ _ ?_; clear hK K)
      refine wpAnyIn_done (by kernel_rfl) ?_ _
      rotate_left
      go_simp
      (refine hK _ _ ?_; clear hK K)
      refine wpAnyIn_ready (rs := [0, 2]) (by kernel_rfl) (by simp) (AllReadyIn.cons rfl (fun K hK => ?_) (AllReadyIn.cons rfl (fun K hK => ?_) AllReadyIn.nil))
      go_simp
      (refine hK _ _ ?_; clear hK K)
      refine wpAnyIn_ready (rs := [2]) (by kernel_rfl) (by simp) (AllReadyIn.cons rfl (fun K hK => ?_) AllReadyIn.nil)
      go_simp
      (refine hK _ _ ?_; clear hK K)
      refine wpAnyIn_ready (rs := [3]) (by kernel_rfl) (by simp) (AllReadyIn.cons rfl (fun K hK => ?_) AllReadyIn.nil)
      go_simp
      ((refine ⟨trivial, ?_⟩); (refine (callsIn_wide.2 HOW.out).mono ?_); rintro e w2 ⟨rfl, hb2⟩; have HIT2 := mkA (HITD.out.belowW hb2); have HJ2 := mkA (HJJ.out _ _ _ HJD.out (Zone.of_below hb2)); clear hb2; have m3 : w2.cell? ⟨y, 0, none⟩ = some (.func (.yield l) #[] #[]) := (z12 HIT2.out.yield 0).trans rfl; obtain ⟨fn, tmps, assign, body, hy, hR⟩ := HYA.out w2 HJ2.out HIT2.out; have HRN := mkA hR; clear hR; dsimp only)
      (refine hK _ _ ?_; clear hK K)
      refine wpAnyIn_ready (rs := [4]) (by kernel_rfl) (by simp) (AllReadyIn.cons rfl (fun K hK => ?_) AllReadyIn.nil)
      go_simp
      ((refine HRN.out.mono ?_); rintro e w3 ⟨b, rfl, hb⟩; have HB3 := mkA hb; clear hb; dsimp only)
      (refine hK _ _ ?_; clear hK K)
      refine wpAnyIn_ready (rs := [5]) (by kernel_rfl) (by simp) (AllReadyIn.cons rfl (fun K hK => ?_) AllReadyIn.nil)
      go_simp
      (refine hK _ _ ?_; clear hK K)
      refine wpAnyIn_done (by kernel_rfl) ?_ _
      rotate_left
      go_simp
      (refine hK _ _ ?_; clear hK K)
      refine wpAnyIn_ready (rs := [0, 3]) (by kernel_rfl) (by simp) (AllReadyIn.cons rfl (fun K hK => ?_) (AllReadyIn.cons rfl (fun K hK => ?_) AllReadyIn.nil))
      go_simp
      (refine hK _ _ ?_; clear hK K)
      refine wpAnyIn_ready (rs := [3]) (by kernel_rfl) (by simp) (AllReadyIn.cons rfl (fun K hK => ?_) AllReadyIn.nil)
      go_simp
      ((refine ⟨trivial, ?_⟩); (refine (callsIn_wide.2 HOW.out).mono ?_); rintro e w2 ⟨rfl, hb2⟩; have HIT2 := mkA (HITD.out.belowW hb2); have HJ2 := mkA (HJJ.out _ _ _ HJD.out (Zone.of_below hb2)); clear hb2; have m3 : w2.cell? ⟨y, 0, none⟩ = some (.func (.yield l) #[] #[]) := (z12 HIT2.out.yield 0).trans rfl; obtain ⟨fn, tmps, assign, body, hy, hR⟩ := HYA.out w2 HJ2.out HIT2.out; have HRN := mkA hR; clear hR; dsimp only)
      (refine hK _ _ ?_; clear hK K)
      refine wpAnyIn_ready (rs := [4]) (by kernel_rfl) (by simp) (AllReadyIn.cons rfl (fun K hK => ?_) AllReadyIn.nil)
      go_simp
      ((refine HRN.out.mono ?_); rintro e w3 ⟨b, rfl, hb⟩; have HB3 := mkA hb; clear hb; dsimp only)
      (refine hK _ _ ?_; clear hK K)
      refine wpAnyIn_ready (rs := [5]) (by kernel_rfl) (by simp) (AllReadyIn.cons rfl (fun K hK => ?_) AllReadyIn.nil)
      go_simp
      (refine hK _ _ ?_; clear hK K)
      refine wpAnyIn_done (by kernel_rfl) ?_ _
      rotate_left
      go_simp
      ((refine ⟨trivial, ?_⟩); (refine (callsIn_wide.2 HOW.out).mono ?_); rintro e w2 ⟨rfl, hb2⟩; have HIT2 := mkA (HITD.out.belowW hb2); have HJ2 := mkA (HJJ.out _ _ _ HJD.out (Zone.of_below hb2)); clear hb2; have m3 : w2.cell? ⟨y, 0, none⟩ = some (.func (.yield l) #[] #[]) := (z12 HIT2.out.yield 0).trans rfl; obtain ⟨fn, tmps, assign, body, hy, hR⟩ := HYA.out w2 HJ2.out HIT2.out; have HRN := mkA hR; clear hR; dsimp only)
      (refine hK _ _ ?_; clear hK K)
      refine wpAnyIn_ready (rs := [0]) (by kernel_rfl) (by simp) (AllReadyIn.cons rfl (fun K hK => ?_) AllReadyIn.nil)
      go_simp
      (refine hK _ _ ?_; clear hK K)
      refine wpAnyIn_ready (rs := [4]) (by kernel_rfl) (by simp) (AllReadyIn.cons rfl (fun K hK => ?_) AllReadyIn.nil)
      go_simp
      ((refine HRN.out.mono ?_); rintro e w3 ⟨b, rfl, hb⟩; have HB3 := mkA hb; clear hb; dsimp only)
      (refine hK _ _ ?_; clear hK K)
      refine wpAnyIn_ready (rs := [5]) (by kernel_rfl) (by simp) (AllReadyIn.cons rfl (fun K hK => ?_) AllReadyIn.nil)
      go_simp
      (refine hK _ _ ?_; clear hK K)
      refine wpAnyIn_done (by kernel_rfl) ?_ _
      rotate_left
      go_simp
      (refine hK _ _ ?_; clear hK K)
      refine wpAnyIn_ready (rs := [0, 1]) (by kernel_rfl) (by simp) (AllReadyIn.cons rfl (fun K hK => ?_) (AllReadyIn.cons rfl (fun K hK => ?_) AllReadyIn.nil))
      go_simp
      (refine hK _ _ ?_; clear hK K)
      refine wpAnyIn_ready (rs := [1]) (by kernel_rfl) (by simp) (AllReadyIn.cons rfl (fun K hK => ?_) AllReadyIn.nil)
      go_simp
      (refine hK _ _ ?_; clear hK K)
      refine wpAnyIn_ready (rs := [3]) (by kernel_rfl) (by simp) (AllReadyIn.cons rfl (fun K hK => ?_) AllReadyIn.nil)
      go_simp
      ((refine ⟨trivial, ?_⟩); (refine (callsIn_wide.2 HOW.out).mono ?_); rintro e w2 ⟨rfl, hb2⟩; have HIT2 := mkA (HITD.out.belowW hb2); have HJ2 := mkA (HJJ.out _ _ _ HJD.out (Zone.of_below hb2)); clear hb2; have m3 : w2.cell? ⟨y, 0, none⟩ = some (.func (.yield l) #[] #[]) := (z12 HIT2.out.yield 0).trans rfl; obtain ⟨fn, tmps, assign, body, hy, hR⟩ := HYA.out w2 HJ2.out HIT2.out; have HRN := mkA hR; clear hR; dsimp only)
      (refine hK _ _ ?_; clear hK K)
      refine wpAnyIn_ready (rs := [4]) (by kernel_rfl) (by simp) (AllReadyIn.cons rfl (fun K hK => ?_) AllReadyIn.nil)
      go_simp
      ((refine HRN.out.mono ?_); rintro e w3 ⟨b, rfl, hb⟩; have HB3 := mkA hb; clear hb; dsimp only)
      (refine hK _ _ ?_; clear hK K)
      refine wpAnyIn_ready (rs := [5]) (by kernel_rfl) (by simp) (AllReadyIn.cons rfl (fun K hK => ?_) AllReadyIn.nil)
      go_simp
      (refine hK _ _ ?_; clear hK K)
      refine wpAnyIn_done (by kernel_rfl) ?_ _
      rotate_left
      go_simp
      (refine hK _ _ ?_; clear hK K)
      refine wpAnyIn_ready (rs := [0, 3]) (by kernel_rfl) (by simp) (AllReadyIn.cons rfl (fun K hK => ?_) (AllReadyIn.cons rfl (fun K hK => ?_) AllReadyIn.nil))
      go_simp
      (refine hK _ _ ?_; clear hK K)
      refine wpAnyIn_ready (rs := [3]) (by kernel_rfl) (by simp) (AllReadyIn.cons rfl (fun K hK => ?_) AllReadyIn.nil)
      go_simp
      ((refine ⟨trivial, ?_⟩); (refine (callsIn_wide.2 HOW.out).mono ?_); rintro e w2 ⟨rfl, hb2⟩; have HIT2 := mkA (HITD.out.belowW hb2); have HJ2 := mkA (HJJ.out _ _ _ HJD.out (Zone.of_below hb2)); clear hb2; have m3 : w2.cell? ⟨y, 0, none⟩ = some (.func (.yield l) #[] #[]) := (z12 HIT2.out.yield 0).trans rfl; obtain ⟨fn, tmps, assign, body, hy, hR⟩ := HYA.out w2 HJ2.out HIT2.out; have HRN := mkA hR; clear hR; dsimp only)
      (refine hK _ _ ?_; clear hK K)
      refine wpAnyIn_ready (rs := [4]) (by kernel_rfl) (by simp) (AllReadyIn.cons rfl (fun K hK => ?_) AllReadyIn.nil)
      go_simp
      ((refine HRN.out.mono ?_); rintro e w3 ⟨b, rfl, hb⟩; have HB3 := mkA hb; clear hb; dsimp only)
      (refine hK _ _ ?_; clear hK K)
      refine wpAnyIn_ready (rs := [5]) (by kernel_rfl) (by simp) (AllReadyIn.cons rfl (fun K hK => ?_) AllReadyIn.nil)
      go_simp
      (refine hK _ _ ?_; clear hK K)
      refine wpAnyIn_done (by kernel_rfl) ?_ _
      rotate_left
      go_simp
      ((refine ⟨trivial, ?_⟩); (refine (callsIn_wide.2 HOW.out).mono ?_); rintro e w2 ⟨rfl, hb2⟩; have HIT2 := mkA (HITD.out.belowW hb2); have HJ2 := mkA (HJJ.out _ _ _ HJD.out (Zone.of_below hb2)); clear hb2; have m3 : w2.cell? ⟨y, 0, none⟩ = some (.func (.yield l) #[] #[]) := (z12 HIT2.out.yield 0).trans rfl; obtain ⟨fn, tmps, assign, body, hy, hR⟩ := HYA.out w2 HJ2.out HIT2.out; have HRN := mkA hR; clear hR; dsimp only)
      (refine hK _ _ ?_; clear hK K)
      refine wpAnyIn_ready (rs := [0]) (by kernel_rfl) (by simp) (AllReadyIn.cons rfl (fun K hK => ?_) AllReadyIn.nil)
      go_simp
      (refine hK _ _ ?_; clear hK K)
      refine wpAnyIn_ready (rs := [4]) (by kernel_rfl) (by simp) (AllReadyIn.cons rfl (fun K hK => ?_) AllReadyIn.nil)
      go_simp
      ((refine HRN.out.mono ?_); rintro e w3 ⟨b, rfl, hb⟩; have HB3 := mkA hb; clear hb; dsimp only)
      (refine hK _ _ ?_; clear hK K)
      refine wpAnyIn_ready (rs := [5]) (by kernel_rfl) (by simp) (AllReadyIn.cons rfl (fun K hK => ?_) AllReadyIn.nil)
      go_simp
      (refine hK _ _ ?_; clear hK K)
      refine wpAnyIn_done (by kernel_rfl) ?_ _
      rotate_left
    all_goals
      clear k0 k1 k2 k3 k4 m3 hy
      gi_wp2
      refine bodyPost_ret (v := .bool b) (by simp [results, Try.results130, go_sem]) rfl ?_
      refine ⟨b, rfl, fun h => ?_, fun h => ?_⟩
      · obtain ⟨q1, q2⟩ := HB3.out.1 h
        refine ⟨?_, os, hol, rfl, q2⟩
        simp only [Int.toNat_natCast, List.drop_length, enumO]
        rw [← hol, List.take_length]
        exact q1
      · refine ⟨[os], ?_, HB3.out.2 h⟩
        simp only [Int.toNat_natCast, List.drop_length, enumO]
        rw [← hol, List.take_length]
        exact List.prefix_rfl
  | succ k ih =>
    intro i os pre W hi0 hik hol hfit hit hj hpre
    have HPRE := mkA hpre
    clear hpre
    have HIT := mkA hit
    have HJP := mkA hj
    have HFT := mkA hfit
    have HIH := mkA ih
    have hs1 : W.cell? ⟨bs, 1, none⟩ = some (.slice A1 l1.length c1) := (z12 HIT.out.slate 1).trans rfl
    have hin := entry_in HCK.out i hi0 (by omega)
    have hdrop : l1.drop i.toNat = rd_T122 l1 i :: l1.drop (i + 1).toNat := by
      rw [show (i + 1).toNat = i.toNat + 1 by omega, List.drop_eq_getElem_cons (by omega : i.toNat < l1.length)]
      simp [rd_T122, List.getD, show i.toNat < l1.length by omega]
    have HDR := mkA hdrop
    have HIN := mkA hin
    clear hit hj hfit ih hdrop
    have g1 : (i == (l1.length : Int)) = false := by simp; omega
    obtain ⟨ad, rfl, y1, y2, y3, y4⟩ := at_T122 (Kd.C_below HR1.out HIT.out.below) i hi0 (by omega)
    refine callsIn_of_wp Try.func130 rfl trivial ?_
    simp only [Try.ntmps130, List.size_toArray, List.length_cons, List.length_nil, Nat.reduceAdd, Nat.reduceSub, Array.replicate_succ, Array.replicate_zero, List.push_toArray, List.append_toArray, List.nil_append, List.cons_append]
    gi_wp2
    clear hs1 y1 y2 y3 y4
    gi_loopw [7] (fun o wr => ∃ (g : Nat) (os' : List Int), o = .int .i64 ((rd_T122 l1 i).f2.f0 + (g : Int)) ∧ g ≤ spanN (rd_T122 l1 i) ∧ os'.length = l1.length ∧ os'.take i.toNat = os.take i.toNat ∧ Aside0 (FitTo l1 os' i) ∧ Aside0 (IterAt w0 l bs y n (some ad) c1 l1 A2 c2 l2 os' wr) ∧ Aside0 (J (pre ++ enumTo (os.take i.toNat) (rd_T122 l1 i) (l1.drop (i + 1).toNat) g) wr)) (fun o _ => ((rd_T122 l1 i).f2.f1 + 1 - intOf o).toNat)
    case atStart => exact ⟨0, os, by simp, by omega, hol, rfl, HFT, HIT, ⟨by rw [enumTo_zero, List.append_nil]; exact HJP.out⟩⟩
    case round =>
      obtain ⟨g, os', rfl, hgs, hol', htk, HF, HI, HJP2⟩ := hrel
      obtain ⟨e1, e2, e3, e4, e5, e6, e7, e8⟩ := HIN.out
      obtain ⟨ad', e1, y1, y2, y3, y4⟩ := at_T122 (Kd.C_below HR1.out HI.out.below) i hi0 (by omega)
      obtain rfl := Option.some.inj e1
      have hs1 : wr.cell? ⟨bs, 1, none⟩ = some (.slice (some ad) l1.length c1) := (z12 HI.out.slate 1).trans rfl
      have hs4 : wr.cell? ⟨y + 2, 0, none⟩ = some (.slice (some ⟨y + 1, 0, none⟩) l1.length l1.length) := (z12 HI.out.now 0).trans rfl
      obtain ⟨b1, b2⟩ := blk_int os' HI.out.row i hi0 (by omega)
      by_cases hlt : (rd_T122 l1 i).f2.f0 + (g : Int) ≤ (rd_T122 l1 i).f2.f1
      · have g2 : decide ((rd_T122 l1 i).f2.f0 + (g : Int) ≤ (rd_T122 l1 i).f2.f1) = true := decide_eq_true hlt
        have HI2 := mkA (HI.out.set hyb hbs i ((rd_T122 l1 i).f2.f0 + (g : Int)))
        have HJ2 := mkA (HJJ.out _ _ _ HJP2.out (Zone.setCell wr ⟨y + 1, i.toNat, none⟩ (.int .i64 ((rd_T122 l1 i).f2.f0 + (g : Int))) ⟨show y ≤ y + 1 by omega, show y + 1 < y + 4 by omega⟩))
        have hs5 : (wr.setCell ⟨y + 1, i.toNat, none⟩ (.int .i64 ((rd_T122 l1 i).f2.f0 + (g : Int)))).cell? ⟨y + 3, 0, none⟩ = some (.func (.func 130) #[] #[.pointer (some ⟨bs, 0, none⟩), .pointer (some ⟨y, 0, none⟩), .pointer (some ⟨y + 2, 0, none⟩), .pointer (some ⟨y + 3, 0, none⟩)]) := (z12 HI2.out.choose 0).trans rfl
        have HCC := mkA (HIH.out (i + 1) (upd os' i ((rd_T122 l1 i).f2.f0 + (g : Int))) _ _ (by omega) (by omega) (by rw [upd_length]; exact hol') (upd_fit hi0 (by omega) HF.out ⟨by omega, hlt⟩) HI2.out HJ2.out (by
          rw [upd_take os' i _ hi0 (by omega), htk, List.append_assoc, ← enumTo_succ]
          refine List.IsPrefix.trans ?_ HPRE.out
          rw [HDR.out, enumO_cons, List.prefix_append_right_inj]
          exact enumTo_prefix _ _ _ (g + 1) _ (by unfold spanN; omega)))
        have HTK := mkA (upd_take os' i ((rd_T122 l1 i).f2.f0 + (g : Int)) hi0 (by omega))
        clear HJ2
        gi_wp2
        refine ⟨trivial, ?_⟩
        refine (callsIn_wide.2 (callsIn_wide.1 HCC.out)).mono ?_
        rintro e w3 ⟨b, rfl, hbt, hbf⟩
        have HBT := mkA hbt
        have HBF := mkA hbf
        clear hbt hbf HCC
        cases b with
        | true =>
          have hcw : wrap64 ((rd_T122 l1 i).f2.f0 + (g : Int) + 1) = (rd_T122 l1 i).f2.f0 + ((g + 1 : Nat) : Int) := by unfold wrap64; omega
          gi_wp2
          go_roundw
          case measure => simp [intOf]; omega
          case rel =>
            obtain ⟨q1, os3, q2, q3, q4⟩ := HBT.out (by simp)
            have htk3 : os3.take i.toNat = os.take i.toNat := by
              have := congrArg (List.take i.toNat) q3
              rw [List.take_take, show min i.toNat (i + 1).toNat = i.toNat by omega, HTK.out, List.take_append_of_le_length (by simp; omega), List.take_take, Nat.min_self, htk] at this
              exact this
            refine ⟨g + 1, os3, by go_num, by unfold spanN; omega, q2, htk3, ⟨?_⟩, ⟨q4⟩, ⟨?_⟩⟩
            · intro j j0 j1
              have hrj : rd os3 j = rd os' j := by
                have := congrArg (fun l => l.getD j.toNat 0) (htk3.trans htk.symm)
                simp only [List.getD, List.getElem?_take_of_lt (show j.toNat < i.toNat by omega)] at this
                simpa [rd, List.getD] using this
              rw [hrj]
              exact HF.out j j0 j1
            · rw [HTK.out, htk] at q1
              rw [enumTo_succ, ← List.append_assoc]
              exact q1
        | false =>
          gi_wp2
          refine bodyPost_ret (v := .bool false) (by simp [results, Try.results130, go_sem]) rfl ?_
          refine ⟨false, rfl, (fun h => by cases h), (fun _ => ?_)⟩
          obtain ⟨q, hq, hx⟩ := HBF.out (by simp)
          rw [HTK.out, htk] at hq
          refine ⟨enumTo (os.take i.toNat) (rd_T122 l1 i) (l1.drop (i + 1).toNat) g ++ q, ?_, by rw [← List.append_assoc]; exact hx⟩
          rw [HDR.out, enumO_cons]
          refine List.IsPrefix.trans ?_ (enumTo_prefix _ _ _ (g + 1) _ (by unfold spanN; omega))
          rw [enumTo_succ]
          exact List.prefix_append_right_inj _ |>.2 hq
      · have g2 : decide ((rd_T122 l1 i).f2.f0 + (g : Int) ≤ (rd_T122 l1 i).f2.f1) = false := decide_eq_false hlt
        gi_wp2
        refine bodyPost_ret (v := .bool true) (by simp [results, Try.results130, go_sem]) rfl ?_
        refine ⟨true, rfl, fun _ => ⟨?_, os', hol', htk, HI.out⟩, fun h => by cases h⟩
        rw [HDR.out, enumO_cons]
        have : g = spanN (rd_T122 l1 i) := by unfold spanN at *; omega
        rw [← this]
        exact HJP2.out
end Go.Proofs.Ytncaadckehikpaa.Q
namespace Go.Proofs.Ytncaadckehikpaa.Q
open Go.RowKit Go.Proofs.YtncaadckehikpaaW.PrintWords Go.Proofs.YtncaadckehikpaaW.PrintLast Go.Proofs.YtncaadckehikpaaW.PrintMore
set_option linter.unusedVariables false
set_option linter.unusedSimpArgs false
attribute [local go_sem] Oper.semAt_some
theorem run_store_func {P : Program} {w : World} {a : Addr} {m : Mode} (f : Fn) (ts cs : Array Value) : (store a (.func f ts cs) m).run P w = stored P w a (.func f ts cs) m := run_store P w a _ m rfl
attribute [local go_sem] run_store_func
theorem make_now : ∀ k : Nat, k ≤ 6 → ∀ W : World, (Instr.makeSlice 37 (.int .i64 (k : Int)) (.int .i64 (k : Int))).run Try.prog W = .ok (.slice (some ⟨W.heap.size, 0, none⟩) k k) (W.alloc (.cells ((List.replicate k (0 : Int)).map (Value.int .i64)).toArray 3))
  | 0, _, W => by kernel_rfl
  | 1, _, W => by kernel_rfl
  | 2, _, W => by kernel_rfl
  | 3, _, W => by kernel_rfl
  | 4, _, W => by kernel_rfl
  | 5, _, W => by kernel_rfl
  | 6, _, W => by kernel_rfl
  | k + 7, h, _ => by omega
/-- What the iterator's call comes to. -/
def EachPost (l1 : List S122) (J Jx : List (List Int) → World → Prop) (e : Ending) (W' : World) : Prop :=
  (∃ v, e = .returned v) ∧ (J (enumO [] l1) W' ∨ ∃ q, q <+: enumO [] l1 ∧ Jx q W')
set_option maxHeartbeats 4000000 in
set_option maxRecDepth 100000 in
theorem each_calls (w0 W : World) (l bs : Nat) (n : Int) (A1 : Option Addr) (c1 : Nat) (l1 : List S122) (A2 : Option Addr) (c2 : Nat) (l2 : List S124) (hck : checkS n l1 l2 = 0)
    (hr1 : Kd.C k122 w0 A1 l1.length l1) (hc1 : l1.length ≤ c1) (hb0 : Below w0.heap.size w0 W) (hs : W.heap[bs]? = some (.cells #[.int .i64 n, .slice A1 l1.length c1, .slice A2 l2.length c2] 35 (0, 0))) (J Jx : List (List Int) → World → Prop) (hJ : ∀ pre V V', J pre V → Zone W.heap.size V V' → J pre V')
    (hY : ∀ pre os W1, J pre W1 → IterAt w0 l bs W.heap.size n A1 c1 l1 A2 c2 l2 os W1 → os.length = l1.length → FitTo l1 os l1.length → pre ++ [os] <+: enumO [] l1 → YieldAt Fence.wide 2 Try.prog l #[aggV (owedL l1 os)] W1 fun e W' =>
      ∃ b, e = .returned (.bool b) ∧ (b = true → J (pre ++ [os]) W' ∧ IterAt w0 l bs W.heap.size n A1 c1 l1 A2 c2 l2 os W') ∧ (b = false → Jx (pre ++ [os]) W')) (h0 : J [] W) :
    CallsIn Fence.wide 3 Try.prog 129 #[.func (.yield l) #[] #[], .pointer (some ⟨bs, 0, none⟩)] W (EachPost l1 J Jx) := by
  have hu35 := Try.underlying35
  have hbs := z22 hs
  have HS := mkA hs
  have HB0 := mkA hb0
  have HJJ := mkA hJ
  have HCC := mkA (choose_calls w0 l bs W.heap.size n A1 c1 l1 A2 c2 l2 hck hr1 hc1 hb0.size hbs (enumO [] l1) J Jx hJ hY l1.length 0)
  have HJ0 := mkA h0
  obtain ⟨z0, z1, z2, z3, z4, z5, z6⟩ := z28 hck
  have k1 : (W.alloc (.cells #[.func (.yield l) #[] #[]] 167)).cell? ⟨bs, 1, none⟩ = some (.slice A1 l1.length c1) := (z12 (blk_below hs (z10 (Below.refl _ _) _)) 1).trans rfl
  clear hs hb0 hJ hY h0 hr1 hck z4 z5 z6
  have hmk := make_now l1.length z2
  refine callsIn_of_wp Try.func129 rfl trivial ?_
  simp only [Try.ntmps129, List.size_toArray, List.length_cons, List.length_nil, Nat.reduceAdd, Nat.reduceSub, Array.replicate_succ, Array.replicate_zero, List.push_toArray, List.append_toArray, List.nil_append, List.cons_append]
  obtain ⟨V1, hV1⟩ : ∃ V1, W.alloc (.cells #[.func (.yield l) #[] #[]] 167) = V1 := ⟨_, rfl⟩
  have s1 : V1.heap.size = W.heap.size + 1 := by rw [← hV1]; simp
  obtain ⟨V2, hV2⟩ : ∃ V2, V1.alloc (.cells ((List.replicate l1.length (0 : Int)).map (Value.int .i64)).toArray 3) = V2 := ⟨_, rfl⟩
  have hm2 := hmk V1
  rw [hV2] at hm2
  have s2 : V2.heap.size = W.heap.size + 2 := by rw [← hV2]; simp [s1]
  have HS2 := mkA s2
  have HS1 := mkA s1
  have b12 : Below V1.heap.size V1 V2 := by rw [← hV2]; exact z10 (Below.refl _ _) _
  have b01 : Below W.heap.size W V1 := by rw [← hV1]; exact z10 (Below.refl _ _) _
  have B02 := mkA (z16 b01 b12)
  have H1 := mkA (show V2.heap[W.heap.size]? = some (.cells #[.func (.yield l) #[] #[]] 167 (0, 0)) by
    refine blk_below ?_ b12; rw [← hV1]; exact z19 W _)
  have H2 := mkA (show V2.heap[W.heap.size + 1]? = some (.cells ((List.replicate l1.length (0 : Int)).map (Value.int .i64)).toArray 3 (0, 0)) by
    rw [← hV2, ← s1]; exact z19 V1 _)
  rw [hV1] at k1
  clear b01 b12 hV2 s2
  have hs1' : V1.heap.size = W.heap.size + 1 := s1
  clear hmk s1
  have e2 : W.heap.size + 2 = V2.heap.size := HS2.out.symm
  have e3 : W.heap.size + 3 = V2.heap.size + 1 := by omega
  obtain ⟨V3, hV3⟩ : ∃ V3, V2.alloc (.cells #[.slice (some ⟨W.heap.size + 1, 0, none⟩) l1.length l1.length] 37) = V3 := ⟨_, rfl⟩
  obtain ⟨V4, hV4⟩ : ∃ V4, V3.alloc (.cells #[.func (.func 130) #[] #[.pointer (some ⟨bs, 0, none⟩), .pointer (some ⟨W.heap.size, 0, none⟩), .pointer (some ⟨V2.heap.size, 0, none⟩), .pointer (some ⟨V2.heap.size + 1, 0, none⟩)]] 164) = V4 := ⟨_, rfl⟩
  have s3 : V3.heap.size = V2.heap.size + 1 := by rw [← hV3]; simp
  have b23 : Below V2.heap.size V2 V3 := by rw [← hV3]; exact z10 (Below.refl _ _) _
  have b34 : Below V3.heap.size V3 V4 := by rw [← hV4]; exact z10 (Below.refl _ _) _
  have b24 : Below V2.heap.size V2 V4 := z16 b23 b34
  have b04 : Below W.heap.size W V4 := z16 B02.out b24
  have h3 : V3.heap[V2.heap.size]? = some (.cells #[.slice (some ⟨W.heap.size + 1, 0, none⟩) l1.length l1.length] 37 (0, 0)) := by rw [← hV3]; exact z19 V2 _
  have HI5 : IterAt w0 l bs W.heap.size n A1 c1 l1 A2 c2 l2 (List.replicate l1.length 0) V4 := by
    refine ⟨z16 HB0.out b04, blk_below HS.out b04, blk_below H1.out b24, blk_below H2.out b24, ?_, ?_⟩
    · rw [e2]; exact blk_below h3 b34
    · rw [e2, e3, ← s3, ← hV4, s3]; rw [← s3]; exact z19 V3 _
  have HLAST := mkA (HCC.out (List.replicate l1.length 0) [] V4 (by omega) (by omega) (by simp) (fun j q0 q1 => by omega) HI5 (HJJ.out _ _ _ HJ0.out (Zone.of_below b04)) (by simp))
  rw [e2, e3, ← hV4, ← hV3] at HLAST
  clear b04 b24 b34 b23 h3 HI5 s3 hV3 hV4 HCC HJ0 HJJ e2 e3
  gi_wp2
  refine ⟨trivial, ?_⟩
  refine (callsIn_wide.2 (callsIn_wide.1 HLAST.out)).mono ?_
  rintro e w3 ⟨b, rfl, hbt, hbf⟩
  have HBT := mkA hbt
  have HBF := mkA hbf
  clear hbt hbf HLAST
  gi_wp2
  refine bodyPost_ret (results_none rfl _ _ _) rfl ?_
  refine ⟨⟨_, rfl⟩, ?_⟩
  cases b with
  | true =>
    have := (HBT.out (by simp)).1
    exact .inl (by simpa using this)
  | false =>
    obtain ⟨q, hq, hx⟩ := HBF.out (by simp)
    exact .inr ⟨q, by simpa using hq, by simpa using hx⟩
end Go.Proofs.Ytncaadckehikpaa.Q
