/- A part of the proof: contracts of functions and plain facts (HPurse, HHas, HRight, HTruth, HAsked0). No condition. -/
import Derived.StillTailTactics
import Derived.Test.YtncaadckehikpaaM9
import Derived.Test.YtncaadckehikpaaM5
import Derived.Test.YtncaadckehikpaaM6
import Derived.Test.YtncaadckehikpaaM0
import Derived.Test.YtncaadckehikpaaM8
namespace Go.Proofs.Ytncaadckehikpaa.Q
open Go.RowKit Go.Proofs.YtncaadckehikpaaW.PrintWords Go.Proofs.YtncaadckehikpaaW.PrintLast Go.Proofs.YtncaadckehikpaaW.PrintMore
set_option linter.unusedVariables false
set_option linter.unusedSimpArgs false
/-- A new purse. -/
def NewPurse (v : List Int) (w : World) (e : Ending) (w' : World) : Prop :=
  ∃ g mb, e = .returned (.pointer (some ⟨g, 0, none⟩)) ∧ PurseAt w' g mb v ∧ Memo w' mb v ∧ g ≠ mb ∧ w.heap.size ≤ mb ∧ w.heap.size ≤ g ∧ Below w.heap.size w w'
set_option maxHeartbeats 1000000 in
set_option maxRecDepth 100000 in
theorem purse_calls (v : List Int) (w : World) : Calls Try.prog 78 #[aggV v] w (NewPurse v w) := by
  have hu157 := Try.underlying157
  have hu128 := Try.underlying128
  have hmm := @run_makeMap Try.prog
  unfold aggV
  go_enter Try.func78, Try.ntmps78
  go_wp2
  go_ret
  refine ⟨w.heap.size + 1 + 1, w.heap.size + 1, rfl, ?_, ?_, by omega, by omega, by omega, z10 (z10 (z10 (Below.refl _ _) _) _) _⟩
  · have := z19 ((w.alloc (.cells #[.int .i64 (rd v 0), .int .i64 (rd v 1), .int .i64 (rd v 2), .int .i64 (rd v 3), .int .i64 (rd v 4), .int .i64 (rd v 5)] 128)).alloc (.map #[] 0)) (.cells #[.int .i64 (rd v 0), .int .i64 (rd v 1), .int .i64 (rd v 2), .int .i64 (rd v 3), .int .i64 (rd v 4), .int .i64 (rd v 5), .map (some (w.heap.size + 1))] 157)
    simpa [PurseAt] using this
  · refine ⟨#[], 0, blk_below ?_ (z10 (Below.refl _ _) _), by intro e he; simp at he⟩
    have := z19 (w.alloc (.cells #[.int .i64 (rd v 0), .int .i64 (rd v 1), .int .i64 (rd v 2), .int .i64 (rd v 3), .int .i64 (rd v 4), .int .i64 (rd v 5)] 128)) (.map #[] 0)
    simpa using this
/-- How many the fewest payments are. -/
def payN (v : List Int) : Int := ((bitsL (openN v)).length : Int) - F v (openN v)
theorem bitsL_length (m : Nat) : (bitsL m).length ≤ 6 := by
  unfold bitsL
  rw [List.length_map]
  exact List.length_filter_le _ _
set_option maxHeartbeats 1000000 in
set_option maxRecDepth 100000 in
theorem payments_calls (g mb : Nat) (v : List Int) (k : Int) (w : World) (hv : ∀ j, -1000000000 ≤ rd v j ∧ rd v j ≤ 1000000000) (hne : g ≠ mb) (hp : PurseAt w g mb v) (hmemo : Memo w mb v) :
    Calls Try.prog 83 #[.pointer (some ⟨g, 0, none⟩), .int .i64 k] w fun e w' => e = .returned (.int .i64 (payN v)) ∧ But mb w w' ∧ Memo w' mb v := by
  have HOP := mkA (open_calls g mb v w hp)
  have HP := mkA hp
  have HM := mkA hmemo
  have HV := mkA hv
  have HNE := mkA hne
  have hopen : openN v < 64 := openTo_lt v 6
  clear hp hmemo hv hne
  go_enter Try.func83, Try.ntmps83
  go_wp2_with fail
  refine HOP.out.mono ?_
  rintro e w1 ⟨rfl, hw⟩
  subst hw
  clear HOP
  have HLI := mkA (soap_listed.calls 8 (openN v : Int) (bitsL (openN v)) w (listed_f _ hopen))
  go_wp2_with fail
  refine HLI.out.mono ?_
  rintro e w2 ⟨v2, rfl, hr, hb⟩
  obtain ⟨Ao, co, rfl⟩ := Kd.R_slice hr
  have HP2 := mkA (show PurseAt w2 g mb v from blk_below HP.out hb)
  have HM2 := mkA (HM.out.below hb)
  have HB2 := mkA (But.of_below (mb := mb) hb)
  clear hr hb HP HM HLI
  have HC := mkA (most_calls g mb v HV.out HNE.out (openN v) w2 hopen HP2.out HM2.out)
  go_wp2_with fail
  refine HC.out.mono ?_
  rintro e w3 ⟨rfl, hbut, hmm⟩
  have HB3 := mkA (HB2.out.trans hbut)
  have HM3 := mkA hmm
  clear hbut hmm HC HB2 HP2 HM2
  have hF := F_bd v (openN v)
  have hbl := bitsL_length (openN v)
  obtain ⟨f1, f2⟩ := hF
  go_wp2
  go_ret
  exact ⟨rfl, HB3.out, HM3.out⟩
/-- soap.Groups. -/
def soap_Groups.f (a0_0 : Int) (l0_1 : List (S122)) (l0_2 : List (S124)) (l1 : List Int) : Option (List (List Int) × Int) :=
  some (if playE a0_0 l0_1 l0_2 l1 = 0 then (groupsL (owedL l0_1 l1), 0) else ([], playE a0_0 l0_1 l0_2 l1))
theorem owed_small {n : Int} {l1 : List S122} {l2 : List S124} {os : List Int} (hck : checkS n l1 l2 = 0) (har : areB l1 os = true) : ∀ j, -480 ≤ rd (owedL l1 os) j ∧ rd (owedL l1 os) j ≤ 480 := by
  obtain ⟨z0, z1, z2, z3, z4, z5, z6⟩ := z28 hck
  have hvb := owedTo_bd l1 os (fun i q0 q1 => by
    have he := entry_in hck i q0 q1
    have h2 := (of_decide_eq_true har).2 i.toNat (by omega)
    unfold z47 at h2
    rw [show ((i.toNat : Nat) : Int) = i by omega] at h2
    omega) l1.length (Nat.le_refl _)
  intro j
  have := hvb j
  unfold owedL
  omega
set_option maxHeartbeats 2000000 in
set_option maxRecDepth 100000 in
theorem soap_Groups.calls (a0_0 : Int) (A0_1 : Option Addr) (c0_1 : Nat) (l0_1 : List (S122)) (A0_2 : Option Addr) (c0_2 : Nat) (l0_2 : List (S124)) (A1 : Option Addr) (c1 : Nat) (l1 : List Int) (r1 : List (List Int)) (r2 : Int) (w : World) (hr0_1 : Kd.C k122 w A0_1 l0_1.length l0_1) (hc0_1 : l0_1.length ≤ c0_1) (hr0_2 : Kd.C k124 w A0_2 l0_2.length l0_2) (hc0_2 : l0_2.length ≤ c0_2) (hr1 : Kd.C (Kd.int .i64) w A1 l1.length l1) (hc1 : l1.length ≤ c1) (h : soap_Groups.f a0_0 l0_1 l0_2 l1 = some (r1, r2)) :
    Calls Try.prog 29 #[.agg #[.int .i64 a0_0, .slice A0_1 l0_1.length c0_1, .slice A0_2 l0_2.length c0_2], .slice A1 l1.length c1] w fun e w' => ∃ v0_ : Value, e = .returned (.tuple #[v0_, .int .i64 r2]) ∧ Kd.S (Kd.slice 3 (Kd.int .i64)) 37 w' w.heap.size (fun _ => True) v0_ r1 ∧ Below w.heap.size w w' := by
  have hu35 := Try.underlying35
  have hu128 := Try.underlying128
  have h2 := Option.some.inj h
  clear h
  have hbw : Below w.heap.size w (w.alloc (.cells #[.int .i64 a0_0, .slice A0_1 l0_1.length c0_1, .slice A0_2 l0_2.length c0_2] 35)) := z10 (Below.refl _ _) _
  have HP := mkA (played_calls a0_0 A0_1 c0_1 l0_1 A0_2 c0_2 l0_2 A1 c1 l1 _ (Kd.C_below hr0_1 hbw) hc0_1 (Kd.C_below hr0_2 hbw) hc0_2 (Kd.C_below hr1 hbw) hc1)
  have HBW := mkA hbw
  clear hbw hr0_1 hr0_2 hr1
  by_cases hE : playE a0_0 l0_1 l0_2 l1 = 0
  · rw [if_pos hE] at h2
    obtain ⟨rfl, rfl⟩ := Prod.mk.inj h2
    obtain ⟨hck, har, hV⟩ := playE_zero hE
    have HVB := mkA (owed_small hck har)
    rw [hE, hV] at HP
    clear h2 hE hck har hV
    go_enter Try.func29, Try.ntmps29
    go_wp2_with fail
    refine HP.out.mono ?_
    rintro e w1 ⟨rfl, hb⟩
    have HB1 := mkA (z16 HBW.out hb)
    clear hb HBW HP
    generalize hvv : owedL l0_1 l1 = v at HVB ⊢
    have HVV := mkA hvv
    clear hvv
    have HPU := mkA (purse_calls v (w1.alloc (.cells #[.int .i64 (rd v 0), .int .i64 (rd v 1), .int .i64 (rd v 2), .int .i64 (rd v 3), .int .i64 (rd v 4), .int .i64 (rd v 5)] 128)))
    unfold aggV at HPU ⊢
    go_wp2_with fail
    refine HPU.out.mono ?_
    rintro e w2 ⟨g, mb, rfl, hp, hmm, hne, hg1, hg2, hb⟩
    have HB2 := mkA (z16 (z10 HB1.out _) hb)
    have hmb : w.heap.size ≤ mb := by have := HB1.out.size; simp at hg1; omega
    have HGR := mkA (groups_calls g mb v w2 (fun j => by have := HVB.out j; omega) hne hp hmm)
    have HMB := mkA hmb
    clear hp hmm hne hg1 hg2 hb hmb HPU
    go_wp2_with fail
    refine HGR.out.mono ?_
    rintro e w3 ⟨v0, rfl, hs, hbut, _⟩
    have HS := mkA (Kd.S_lower hs HB2.out.size)
    have HB3 := mkA (((But.of_below HB2.out).trans hbut).below HMB.out)
    clear hs hbut HGR
    go_wp2
    go_ret2
    exact ⟨v0, rfl, by rw [HVV.out]; exact HS.out, HB3.out⟩
  · rw [if_neg hE] at h2
    obtain ⟨rfl, rfl⟩ := Prod.mk.inj h2
    generalize hq : playE a0_0 l0_1 l0_2 l1 = q at hE HP ⊢
    have g1 : (q != 0) = true := bne_iff_ne.2 hE
    clear h2 hE hq
    go_enter Try.func29, Try.ntmps29
    go_wp2_with fail
    refine HP.out.mono ?_
    rintro e w1 ⟨rfl, hb⟩
    have HB1 := mkA (z16 HBW.out hb)
    clear hb HBW HP
    generalize playV a0_0 l0_1 l0_2 l1 = v
    unfold aggV
    go_wp2
    go_ret2
    exact ⟨_, rfl, Kd.S_nil _ _ _ _ _, z10 HB1.out _⟩
end Go.Proofs.Ytncaadckehikpaa.Q
namespace Go.Proofs.Ytncaadckehikpaa.Q
open Go.RowKit Go.Proofs.YtncaadckehikpaaW.PrintWords Go.Proofs.YtncaadckehikpaaW.PrintLast Go.Proofs.YtncaadckehikpaaW.PrintMore
set_option linter.unusedVariables false
set_option linter.unusedSimpArgs false
/-- Whether a list has a number. -/
def hasB (l : List Int) (a : Int) : Bool := l.any fun x => a == x
set_option maxHeartbeats 1000000 in
set_option maxRecDepth 100000 in
theorem index_same (A0 : Option Addr) (c0 : Nat) (l0 : List Int) (a : Int) (w : World) (hr0 : Kd.C (Kd.int .i64) w A0 l0.length l0) (hlen : (l0.length : Int) ≤ 140737488355328) :
    Calls Try.prog 132 #[.slice A0 l0.length c0, .int .i64 a] w fun e w' => e = .returned (.int .i64 (fi (fun x => a == x) l0)) ∧ w' = w := by
  have HR0 := mkA hr0
  clear hr0
  go_enter Try.func132, Try.ntmps132
  go_wp2
  go_loop [8] (fun i => ∃ k : Int, 0 ≤ k ∧ k ≤ l0.length ∧ i = .int .i64 k ∧ Aside0 (∀ j : Int, 0 ≤ j → j < k → (a == rd l0 j) = false)) (fun i => l0.length - (intOf i).toNat)
  case atStart => exact ⟨0, by omega, by omega, rfl, ⟨fun j h0 h1 => by omega⟩⟩
  case round =>
    obtain ⟨k, hk1, hk2, rfl, HN⟩ := hrel
    by_cases hlt : k < l0.length
    · have c3b0 : decide (k < (l0.length : Int)) = true := decide_eq_true hlt
      obtain ⟨ad1, e1, hx1⟩ := Kd.at_int HR0.out k (by omega) hlt
      cases e1
      have p1 : 0 ≤ k := by omega
      cases hp : a == rd l0 k with
      | true =>
        have HP := mkA (fi_some (0 : Int) (fun x => a == x) l0 k hk1 hlt HN.out hp)
        go_wp2
        go_ret
        exact ⟨by rw [HP.out]; rfl, rfl⟩
      | false =>
        have HP := mkA hp
        go_wp2
        go_round
        case rel =>
          refine ⟨k + 1, by omega, by omega, by go_num, ⟨fun j h0 h1 => ?_⟩⟩
          by_cases hj : j < k
          · exact HN.out j h0 hj
          · obtain rfl : j = k := by omega
            exact HP.out
        case measure => simp [intOf]; omega
    · have c3b0 : decide (k < (l0.length : Int)) = false := decide_eq_false hlt
      obtain rfl : k = l0.length := by omega
      have HP := mkA (fi_none (0 : Int) (fun x => a == x) l0 HN.out)
      go_wp2
      go_ret
      exact ⟨by rw [HP.out]; rfl, rfl⟩
set_option maxHeartbeats 1000000 in
set_option maxRecDepth 100000 in
theorem contains_same (A0 : Option Addr) (c0 : Nat) (l0 : List Int) (a : Int) (w : World) (hr0 : Kd.C (Kd.int .i64) w A0 l0.length l0) (hlen : (l0.length : Int) ≤ 140737488355328) :
    Calls Try.prog 120 #[.slice A0 l0.length c0, .int .i64 a] w fun e w' => e = .returned (.bool (hasB l0 a)) ∧ w' = w := by
  have HC := mkA (index_same A0 c0 l0 a w hr0 hlen)
  clear hr0
  go_enter Try.func120, Try.ntmps120
  go_wp2_with fail
  refine HC.out.mono ?_
  rintro e w' ⟨rfl, rfl⟩
  go_wp2
  go_ret
  exact ⟨by unfold hasB; rw [← fi_any]; rfl, rfl⟩
end Go.Proofs.Ytncaadckehikpaa.Q
namespace Go.Proofs.Ytncaadckehikpaa.Q
open Go.RowKit Go.Proofs.YtncaadckehikpaaW.PrintWords Go.Proofs.YtncaadckehikpaaW.PrintLast Go.Proofs.YtncaadckehikpaaW.PrintMore
set_option linter.unusedVariables false
set_option linter.unusedSimpArgs false
/-- Whether a saying is right, or left out. -/
def rightAt (l2 : List S124) (v out : List Int) (i : Nat) : Bool := hasB out i || (decide ((rd_T124 l2 i).f1.f0 ≤ rd v (rd_T124 l2 i).f0) && decide (rd v (rd_T124 l2 i).f0 ≤ (rd_T124 l2 i).f1.f1))
/-- Whether all sayings but some are right. -/
def rightB (l2 : List S124) (v out : List Int) : Bool := decide (∀ i : Nat, i < l2.length → rightAt l2 v out i = true)
theorem has_f (a b x : Int) : soap_Range_has.f a b x = some (decide (a ≤ x) && decide (x ≤ b)) := by
  unfold soap_Range_has.f soap_within.f
  by_cases h : a ≤ x <;> simp [h]
set_option maxHeartbeats 2000000 in
set_option maxRecDepth 100000 in
theorem right_calls (n : Int) (A1 : Option Addr) (c1 : Nat) (l1 : List S122) (A2 : Option Addr) (c2 : Nat) (l2 : List S124) (v : List Int) (A3 : Option Addr) (c3 : Nat) (out : List Int) (w : World)
    (hr2 : Kd.C k124 w A2 l2.length l2) (hc2 : l2.length ≤ c2) (hr3 : Kd.C (Kd.int .i64) w A3 out.length out) (hc3 : out.length ≤ c3) (hvl : v.length = 6)
    (hout : (out.length : Int) ≤ 140737488355328) (h5 : l2.length ≤ 5) (hs : ∀ i : Int, 0 ≤ i → i < l2.length → 0 ≤ (rd_T124 l2 i).f0 ∧ (rd_T124 l2 i).f0 < 6) :
    Calls Try.prog 98 #[.agg #[.int .i64 n, .slice A1 l1.length c1, .slice A2 l2.length c2], aggV v, .slice A3 out.length c3] w fun e w' => e = .returned (.bool (rightB l2 v out)) ∧ Below w.heap.size w w' := by
  have hu35 := Try.underlying35
  have hu128 := Try.underlying128
  have hu124 := Try.underlying124
  have HR2 := mkA hr2
  have HR3 := mkA hr3
  have HC2 := mkA hc2
  have HC3 := mkA hc3
  have HS := mkA hs
  have HVL := mkA hvl
  have HOUT := mkA hout
  clear hr2 hr3 hc2 hc3 hs hvl hout
  unfold aggV
  have hb0 : Below w.heap.size w ((w.alloc (.cells #[.int .i64 n, .slice A1 l1.length c1, .slice A2 l2.length c2] 35)).alloc (.cells #[.int .i64 (rd v 0), .int .i64 (rd v 1), .int .i64 (rd v 2), .int .i64 (rd v 3), .int .i64 (rd v 4), .int .i64 (rd v 5)] 128)) := z10 (z10 (Below.refl _ _) _) _
  have hk0 : ((w.alloc (.cells #[.int .i64 n, .slice A1 l1.length c1, .slice A2 l2.length c2] 35)).alloc (.cells #[.int .i64 (rd v 0), .int .i64 (rd v 1), .int .i64 (rd v 2), .int .i64 (rd v 3), .int .i64 (rd v 4), .int .i64 (rd v 5)] 128)).heap[w.heap.size + 1]? = some (.cells (v.map (Value.int .i64)).toArray 128 (0, 0)) := by
    have := z19 (w.alloc (.cells #[.int .i64 n, .slice A1 l1.length c1, .slice A2 l2.length c2] 35)) (.cells #[.int .i64 (rd v 0), .int .i64 (rd v 1), .int .i64 (rd v 2), .int .i64 (rd v 3), .int .i64 (rd v 4), .int .i64 (rd v 5)] 128)
    rw [six_map HVL.out]
    simpa using this
  have HB0 := mkA hb0
  have HK0 := mkA hk0
  clear hb0 hk0
  go_enter Try.func98, Try.ntmps98
  go_wp2
  go_loopw [12] (fun i wr => ∃ k : Int, 0 ≤ k ∧ k ≤ l2.length ∧ i = .int .i64 k ∧ Aside0 (∀ j : Nat, (j : Int) < k → rightAt l2 v out j = true) ∧ Aside0 (wr.heap[w.heap.size + 1]? = some (.cells (v.map (Value.int .i64)).toArray 128 (0, 0))) ∧ Below w.heap.size w wr) (fun i _ => l2.length - (intOf i).toNat)
  case atStart => exact ⟨0, by omega, by omega, rfl, ⟨fun j h => by omega⟩, HK0, HB0.out⟩
  case round =>
    clear HB0 HK0
    obtain ⟨k, hk1, hk2, rfl, HALL, HK, hb⟩ := hrel
    have HB := mkA hb
    clear hb
    by_cases hlt : k < l2.length
    · have c3b0 : decide (k < (l2.length : Int)) = true := decide_eq_true hlt
      obtain ⟨ad1, e1, hx1, hx2, hx3⟩ := at_T124 (Kd.C_below HR2.out HB.out) k (by omega) hlt
      cases e1
      obtain ⟨z1, z2⟩ := HS.out k hk1 hlt
      have hat : rightAt l2 v out k.toNat = (hasB out k || (decide ((rd_T124 l2 k).f1.f0 ≤ rd v (rd_T124 l2 k).f0) && decide (rd v (rd_T124 l2 k).f0 ≤ (rd_T124 l2 k).f1.f1))) := by
        unfold rightAt
        rw [show ((k.toNat : Nat) : Int) = k by omega]
      have HAT := mkA hat
      clear hat
      go_wp2
      have hb3 : Below wr.heap.size wr (wr.alloc (.cells #[.int .i64 (rd_T124 l2 k).f0, .int .i64 (rd_T124 l2 k).f1.f0, .int .i64 (rd_T124 l2 k).f1.f1] 124)) := z10 (Below.refl _ _) _
      have hk3 : (wr.alloc (.cells #[.int .i64 (rd_T124 l2 k).f0, .int .i64 (rd_T124 l2 k).f1.f0, .int .i64 (rd_T124 l2 k).f1.f1] 124)).heap[wr.heap.size]? = some (.cells #[.int .i64 (rd_T124 l2 k).f0, .int .i64 (rd_T124 l2 k).f1.f0, .int .i64 (rd_T124 l2 k).f1.f1] 124 (0, 0)) := z19 wr _
      generalize hw3 : wr.alloc (.cells #[.int .i64 (rd_T124 l2 k).f0, .int .i64 (rd_T124 l2 k).f1.f0, .int .i64 (rd_T124 l2 k).f1.f1] 124) = w3 at hb3 hk3 ⊢
      clear hw3 hx1 hx2 hx3
      have HB3 := mkA (z16 HB.out hb3)
      have HV := mkA (blk_below HK.out hb3)
      have HE := mkA hk3
      clear hb3 hk3
      have HCO := mkA (fun m : Nat => contains_same A3 c3 out k (w3.drewN m) (Kd.C_below HR3.out (z11 HB3.out m)) HOUT.out)
      cases hh : hasB out k with
      | true =>
        rw [hh] at HCO HAT
        clear hh
        go_quiet ((go_at_call 120; exact Calls.quiet_of_same (HCO.out _)))
        go_wp2
        go_roundw
        case rel =>
          refine ⟨k + 1, by omega, by omega, by go_num, ⟨fun j hj => ?_⟩, HV, z11 HB3.out _⟩
          by_cases e : (j : Int) < k
          · exact HALL.out j e
          · obtain rfl : j = k.toNat := by omega
            rw [HAT.out]; rfl
        case measure => simp [intOf]; omega
      | false =>
        rw [hh] at HCO HAT
        clear hh
        have y0 : w3.cell? ⟨wr.heap.size, 0, none⟩ = some (.int .i64 (rd_T124 l2 k).f0) := (z12 HE.out 0).trans rfl
        have y1 : w3.cell? ⟨wr.heap.size, 1, none⟩ = some (.int .i64 (rd_T124 l2 k).f1.f0) := (z12 HE.out 1).trans rfl
        have y2 : w3.cell? ⟨wr.heap.size, 2, none⟩ = some (.int .i64 (rd_T124 l2 k).f1.f1) := (z12 HE.out 2).trans rfl
        obtain ⟨y3, _⟩ := blk_int v HV.out (rd_T124 l2 k).f0 z1 (by rw [HVL.out]; omega)
        generalize rd_T124 l2 k = en at *
        have HC1 := mkA (HCO.out 1)
        have y0' : w3.drew.cell? ⟨wr.heap.size, 0, none⟩ = some (.int .i64 en.f0) := y0
        have y1' : w3.drew.cell? ⟨wr.heap.size, 1, none⟩ = some (.int .i64 en.f1.f0) := y1
        have y2' : w3.drew.cell? ⟨wr.heap.size, 2, none⟩ = some (.int .i64 en.f1.f1) := y2
        have y3' : w3.drew.cell? ⟨w.heap.size + 1, en.f0.toNat, none⟩ = some (.int .i64 (rd v en.f0)) := y3
        go_still_tail 11, (by kernel_rfl)
        still_call HC1.out
        repeat still_step
        refine wpStill_nil ?_
        change wpList _ _ _ _ _ w3.drew
        generalize hw4 : w3.drew = w4
        have HB4 := mkA (show Below w.heap.size w w4 by rw [← hw4]; exact z13 HB3.out)
        have HV4 := mkA (show w4.heap[w.heap.size + 1]? = some (.cells (v.map (Value.int .i64)).toArray 128 (0, 0)) by rw [← hw4]; exact HV.out)
        clear hw4 y0 y1 y2 y3 y0' y1' y2' y3' HC1 HCO
        go_wp2_with fail
        have HH := mkA (soap_Range_has.calls en.f1.f0 en.f1.f1 (rd v en.f0) _ w4 (has_f _ _ _))
        refine HH.out.mono ?_
        rintro e w5 ⟨rfl, hb⟩
        have HB5 := mkA (z16 HB4.out hb)
        have HV5 := mkA (blk_below HV4.out hb)
        clear hb HH
        cases hd : (decide (en.f1.f0 ≤ rd v en.f0) && decide (rd v en.f0 ≤ en.f1.f1)) with
        | true =>
          rw [hd] at HAT
          clear hd
          go_wp2
          go_roundw
          case rel =>
            refine ⟨k + 1, by omega, by omega, by go_num, ⟨fun j hj => ?_⟩, HV5, HB5.out⟩
            by_cases e : (j : Int) < k
            · exact HALL.out j e
            · obtain rfl : j = k.toNat := by omega
              rw [HAT.out]; rfl
          case measure => simp [intOf]; omega
        | false =>
          rw [hd] at HAT
          clear hd
          have HRB := mkA (show rightB l2 v out = false from decide_eq_false (fun h => by have := h k.toNat (by omega); rw [HAT.out] at this; cases this))
          go_wp2
          go_ret
          exact ⟨by rw [HRB.out]; rfl, HB5.out⟩
    · have c3b0 : decide (k < (l2.length : Int)) = false := decide_eq_false hlt
      obtain rfl : k = l2.length := by omega
      have HRB := mkA (show rightB l2 v out = true from decide_eq_true (fun i hi => HALL.out i (by omega)))
      go_wp2
      go_ret
      exact ⟨by rw [HRB.out]; rfl, HB.out⟩
end Go.Proofs.Ytncaadckehikpaa.Q
namespace Go.Proofs.Ytncaadckehikpaa.Q
open Go.RowKit Go.Proofs.YtncaadckehikpaaW.PrintWords Go.Proofs.YtncaadckehikpaaW.PrintLast Go.Proofs.YtncaadckehikpaaW.PrintMore
set_option linter.unusedVariables false
set_option linter.unusedSimpArgs false
theorem rd_T124_mem (l : List S124) (i : Int) (h0 : 0 ≤ i) (h : i < l.length) : rd_T124 l i ∈ l := by
  have hn : i.toNat < l.length := by omega
  simp [rd_T124, List.getD, hn]
theorem saying_in {n : Int} {l1 : List S122} {l2 : List S124} (h : checkS n l1 l2 = 0) (i : Int) (h0 : 0 ≤ i) (hi : i < l2.length) :
    0 ≤ (rd_T124 l2 i).f0 ∧ (rd_T124 l2 i).f0 < n ∧ -240 ≤ (rd_T124 l2 i).f1.f0 ∧ (rd_T124 l2 i).f1.f0 ≤ (rd_T124 l2 i).f1.f1 ∧ (rd_T124 l2 i).f1.f1 ≤ 240 := by
  obtain ⟨z0, z1, z2, z3, z4, z5, z6⟩ := z28 h
  have he := List.all_eq_true.1 z5 _ (rd_T124_mem l2 i h0 hi)
  simp only [sayingB, womanB, Bool.and_eq_true, decide_eq_true_eq] at he
  omega
/-- soap.ProveTruth. -/
def soap_ProveTruth.f (a0_0 : Int) (l0_1 : List (S122)) (l0_2 : List (S124)) (l1 : List Int) : Option Bool :=
  some (playE a0_0 l0_1 l0_2 l1 == 0 && rightB l0_2 (owedL l0_1 l1) [])
end Go.Proofs.Ytncaadckehikpaa.Q
namespace Go.Proofs.Ytncaadckehikpaa.Q
open Go.RowKit Go.Proofs.YtncaadckehikpaaW.PrintWords Go.Proofs.YtncaadckehikpaaW.PrintLast Go.Proofs.YtncaadckehikpaaW.PrintMore
set_option linter.unusedVariables false
set_option linter.unusedSimpArgs false
/-- A row of pointers to purses. -/
def kP : Kd Nat := Kd.scalar (fun g => Value.pointer (some ⟨g, 0, none⟩)) (fun _ => rfl)
theorem info117 : (Try.prog.info? 117).map (fun i => (i.zero, i.size, i.bytes)) = some (some (.pointer none), 1, 8) := by kernel_rfl
theorem kP_mkM (w : World) (base : Nat) (ok : Nat → Prop) (g : Nat) : kP.M w base ok g [.pointer (some ⟨g, 0, none⟩)] := rfl
theorem at_P {w : World} {A : Option Addr} {n : Nat} {gs : List Nat} (h : kP.C w A n gs) (i : Int) (h0 : 0 ≤ i) (h1 : i < n) : ∃ ad, A = some ad ∧ w.cell? (ad.add i.toNat) = some (.pointer (some ⟨gs.getD i.toNat 0, 0, none⟩)) := by
  obtain ⟨ad, c, e, _, hK, hc0⟩ := Kd.C_get h 0 i h0 h1
  have hK2 : c = [.pointer (some ⟨gs.getD i.toNat 0, 0, none⟩)] := hK
  subst hK2
  refine ⟨ad, e, ?_⟩
  have := hc0 0 _ rfl
  rw [show i.toNat * kP.sz + 0 = i.toNat by simp [kP, Kd.scalar]] at this
  exact this
structure Purses (W : World) (base : Nat) (gs mbs : List Nat) (vs : List (List Int)) : Prop where
  lg : gs.length = vs.length
  lm : mbs.length = vs.length
  nodup : mbs.Nodup
  at_ : ∀ i, i < vs.length → PurseAt W (gs.getD i 0) (mbs.getD i 0) (vs.getD i []) ∧ Memo W (mbs.getD i 0) (vs.getD i []) ∧ base ≤ mbs.getD i 0 ∧ base ≤ gs.getD i 0
theorem Memo.size {W : World} {mb : Nat} {v : List Int} (h : Memo W mb v) : mb < W.heap.size := by
  obtain ⟨es, cl, h1, _⟩ := h
  exact z22 h1
theorem Purses.nil (W : World) (base : Nat) : Purses W base [] [] [] := ⟨rfl, rfl, List.nodup_nil, fun i h => by simp at h⟩
/-- What keeps the blocks from base on keeps the purses. -/
theorem Purses.move {W W' : World} {base : Nat} {gs mbs : List Nat} {vs : List (List Int)} (h : Purses W base gs mbs vs) (hm : ∀ k, base ≤ k → k < W.heap.size → (∀ cs, W.heap[k]? ≠ some (.cells cs 117 (0, 0))) → W'.heap[k]? = W.heap[k]?) : Purses W' base gs mbs vs :=
  ⟨h.lg, h.lm, h.nodup, fun i hi => by
    obtain ⟨h1, h2, h3, h4⟩ := h.at_ i hi
    obtain ⟨es, cl, h5, h6⟩ := h2
    refine ⟨(hm _ h4 (z22 h1) (fun cs hc => ?_)).trans h1, ⟨es, cl, (hm _ h3 (z22 h5) (fun cs hc => ?_)).trans h5, h6⟩, h3, h4⟩
    · rw [show W.heap[gs.getD i 0]? = _ from h1] at hc
      injection hc with hc
      injection hc with _ hc
      cases hc
    · rw [h5] at hc
      cases hc⟩
theorem Purses.below {W W' : World} {base : Nat} {gs mbs : List Nat} {vs : List (List Int)} (h : Purses W base gs mbs vs) (hb : Below W.heap.size W W') : Purses W' base gs mbs vs := h.move (fun k _ hk _ => hb.block k hk)
theorem Purses.grown {W W' : World} {base b2 : Nat} {gs mbs : List Nat} {vs : List (List Int)} {ok : Nat → Prop} {v : Value} {xs : List Nat} (h : Purses W base gs mbs vs) (hR : kP.R 117 W b2 ok v xs) (hg : W.grownBy W' v.ownBlock) : Purses W' base gs mbs vs :=
  h.move (fun k _ hk hn => hg.block k hk (fun e => by
    obtain ⟨cells, hc⟩ := Kd.R_typed hR k e.symm
    exact hn _ hc))
theorem getD_append_one {α : Type} (d : α) (xs : List α) (x : α) (i : Nat) (h : i < xs.length + 1) : (xs ++ [x]).getD i d = if i = xs.length then x else xs.getD i d := by
  by_cases hi : i = xs.length
  · subst hi
    simp [List.getD]
  · rw [if_neg hi]
    simp [List.getD, List.getElem?_append_left (show i < xs.length by omega)]
theorem Purses.add {W : World} {base g mb : Nat} {gs mbs : List Nat} {vs : List (List Int)} {v : List Int} (h : Purses W base gs mbs vs) (hp : PurseAt W g mb v) (hm : Memo W mb v) (hn : ∀ x ∈ mbs, x < mb) (h1 : base ≤ mb) (h2 : base ≤ g) : Purses W base (gs ++ [g]) (mbs ++ [mb]) (vs ++ [v]) := by
  refine ⟨by simp [h.lg], by simp [h.lm], ?_, fun i hi => ?_⟩
  · rw [List.nodup_append]
    exact ⟨h.nodup, by simp, fun a ha b hb => by simp at hb; subst hb; have := hn a ha; omega⟩
  · simp at hi
    rw [getD_append_one _ _ _ _ (by rw [h.lg]; omega), getD_append_one _ _ _ _ (by rw [h.lm]; omega), getD_append_one _ _ _ _ (by omega)]
    rw [h.lg, h.lm]
    by_cases he : i = vs.length
    · rw [if_pos he, if_pos he, if_pos he]
      exact ⟨hp, hm, h1, h2⟩
    · rw [if_neg he, if_neg he, if_neg he]
      exact h.at_ i (by omega)
theorem Purses.memos {W : World} {base : Nat} {gs mbs : List Nat} {vs : List (List Int)} (h : Purses W base gs mbs vs) : ∀ x ∈ mbs, x < W.heap.size := by
  intro x hx
  obtain ⟨i, hi, rfl⟩ := List.getElem_of_mem hx
  have := (h.at_ i (by rw [← h.lm]; exact hi)).2.1.size
  simpa [List.getD, hi] using this
/-- One more number of ounces: the purse is kept if all sayings are right, unless it is the last one. -/
def askStep (l1 : List S122) (l2 : List S124) (acc : List (List Int)) (os : List Int) : List (List Int) :=
  if rightB l2 (owedL l1 os) [] = true ∧ acc.getLast? ≠ some (owedL l1 os) then acc ++ [owedL l1 os] else acc
/-- The purses of a question. -/
def askedL (l1 : List S122) (l2 : List S124) (oss : List (List Int)) : List (List Int) := oss.foldl (askStep l1 l2) []
theorem askedL_snoc (l1 : List S122) (l2 : List S124) (oss : List (List Int)) (os : List Int) : askedL l1 l2 (oss ++ [os]) = askStep l1 l2 (askedL l1 l2 oss) os := by simp [askedL]
theorem askedL_len (l1 : List S122) (l2 : List S124) : ∀ (oss : List (List Int)) (acc : List (List Int)), (oss.foldl (askStep l1 l2) acc).length ≤ acc.length + oss.length
  | [], acc => by simp
  | o :: r, acc => by
    have := askedL_len l1 l2 r (askStep l1 l2 acc o)
    have h2 : (askStep l1 l2 acc o).length ≤ acc.length + 1 := by
      unfold askStep
      split <;> simp
    simp only [List.foldl_cons, List.length_cons]
    omega
/-- How many ounces there are. -/
theorem enumO_len : ∀ (es : List S122) (p : List Int), (∀ e ∈ es, spanN e ≤ 41) → (enumO p es).length ≤ 41 ^ es.length
  | [], p, _ => by simp [enumO]
  | e :: es, p, h => by
    rw [enumO, List.length_flatMap]
    have h1 := h e (by simp)
    have h2 : ∀ (ks : List Nat), (ks.map (fun k : Nat => (enumO (p ++ [e.f2.f0 + (k : Int)]) es).length)).sum ≤ ks.length * 41 ^ es.length := by
      intro ks
      induction ks with
      | nil => simp
      | cons k ks ih =>
        have := enumO_len es (p ++ [e.f2.f0 + (k : Int)]) (fun x hx => h x (by simp [hx]))
        simp only [List.map_cons, List.sum_cons, List.length_cons, Nat.succ_mul]
        omega
    have h3 := h2 (List.range (spanN e))
    rw [List.length_range] at h3
    rw [List.length_cons, Nat.pow_succ, Nat.mul_comm]
    exact Nat.le_trans h3 (Nat.mul_le_mul_right _ h1)
theorem enumO_bound {n : Int} {l1 : List S122} {l2 : List S124} (h : checkS n l1 l2 = 0) : (enumO [] l1).length ≤ 4750104241 := by
  obtain ⟨z0, z1, z2, z3, z4, z5, z6⟩ := z28 h
  refine Nat.le_trans (enumO_len l1 [] (fun e he => ?_)) (Nat.le_trans (Nat.pow_le_pow_right (by omega) z2) (by decide))
  have h1 := List.all_eq_true.1 z4 e he
  simp only [entryB, Bool.and_eq_true, decide_eq_true_eq] at h1
  unfold spanN
  omega
end Go.Proofs.Ytncaadckehikpaa.Q
