/- A part of the proof: contracts of functions and plain facts (HProve, HSettle0, HSettle1, HSettle2). No condition. -/
import Derived.BigRegion
import Derived.StillTailTactics
import Derived.Test.YtncaadckehikpaaM9
import Derived.Test.YtncaadckehikpaaM8
import Derived.Test.YtncaadckehikpaaM10
namespace Go.Proofs.Ytncaadckehikpaa.Q
open Go.RowKit Go.Proofs.YtncaadckehikpaaW.PrintWords Go.Proofs.YtncaadckehikpaaW.PrintLast Go.Proofs.YtncaadckehikpaaW.PrintMore
set_option linter.unusedVariables false
set_option linter.unusedSimpArgs false
/-- What women are owed behind a payment. -/
def pay1 (v : List Int) (p : S76) : List Int :=
  let v1 := upd v p.f0 (rd v p.f0 + p.f2)
  upd v1 p.f1 (rd v1 p.f1 - p.f2)
/-- .. behind the first n of some payments. -/
def paid (v : List Int) (l : List S76) (n : Nat) : List Int := (l.take n).foldl pay1 v
def allZero (v : List Int) : Bool := rd v 0 == 0 && rd v 1 == 0 && rd v 2 == 0 && rd v 3 == 0 && rd v 4 == 0 && rd v 5 == 0
theorem pay1_length (v : List Int) (p : S76) : (pay1 v p).length = v.length := by simp [pay1, upd_length]
/-- soap.ProveSettle. -/
def proveS (n : Int) (l1 : List S122) (l2 : List S124) (os : List Int) (ps : List S76) (many : Int) : Bool :=
  playE n l1 l2 os == 0 && decide ((ps.length : Int) ≤ many) && ps.all (payB n) && allZero (paid (owedL l1 os) ps ps.length)
def soap_ProveSettle.f (a0_0 : Int) (l0_1 : List (S122)) (l0_2 : List (S124)) (l1 : List Int) (l2 : List (S76)) (a3 : Int) : Option Bool :=
  if l2.length ≤ 1000000 then some (proveS a0_0 l0_1 l0_2 l1 l2 a3) else none
end Go.Proofs.Ytncaadckehikpaa.Q
namespace Go.Proofs.Ytncaadckehikpaa.Q
open Go.RowKit Go.Proofs.YtncaadckehikpaaW.PrintWords Go.Proofs.YtncaadckehikpaaW.PrintLast Go.Proofs.YtncaadckehikpaaW.PrintMore
set_option linter.unusedVariables false
set_option linter.unusedSimpArgs false
def negB (u : List Int) (x : Int) : Bool := decide (rd u x < 0)
def posB (u : List Int) (x : Int) : Bool := decide (0 < rd u x)
/-- The payment that is made next. -/
def nextPay (grp u : List Int) : S76 :=
  let a := rd grp (fi (negB u) grp)
  let b := rd grp (fi (posB u) grp)
  ⟨a, b, mn (-(rd u a)) (rd u b)⟩
def z37 (grp : List Int) : Nat → List Int → List S76
  | 0, _ => []
  | k + 1, u => if fi (negB u) grp < 0 ∨ fi (posB u) grp < 0 then [] else nextPay grp u :: z37 grp k (pay1 u (nextPay grp u))
def settleL (grp v : List Int) : List S76 := z37 grp 7 v
/-- How many of six numbers are not 0. -/
def nzTo (u : List Int) : Nat → Nat
  | 0 => 0
  | i + 1 => nzTo u i + if rd u i ≠ 0 then 1 else 0
theorem fi_spec {α : Type} (z : α) (p : α → Bool) (xs : List α) : fi p xs = -1 ∨ (0 ≤ fi p xs ∧ fi p xs < xs.length ∧ p (xs.getD (fi p xs).toNat z) = true) := by
  unfold fi
  cases h : xs.findIdx? p with
  | none => exact .inl rfl
  | some i =>
    obtain ⟨hi, hp, _⟩ := List.findIdx?_eq_some_iff_getElem.1 h
    refine .inr ⟨by simp, by simpa using hi, by simpa [List.getD, hi] using hp⟩
theorem nz_le (u : List Int) : ∀ n, nzTo u n ≤ n
  | 0 => Nat.le_refl _
  | n + 1 => by
    have := nz_le u n
    simp only [nzTo]
    split <;> omega
theorem nz_change (u w : List Int) (a : Nat) (ha : rd u a ≠ 0) (hw : rd w a = 0) (h : ∀ j : Nat, rd u j = 0 → rd w j = 0) : ∀ n, nzTo w n + (if a < n then 1 else 0) ≤ nzTo u n
  | 0 => by simp [nzTo]
  | n + 1 => by
    have ih := nz_change u w a ha hw h n
    simp only [nzTo]
    by_cases e : a = n
    · subst e
      have h1 : (if rd w (a : Int) ≠ 0 then 1 else 0) = 0 := if_neg (fun h => h hw)
      have h2 : (if rd u (a : Int) ≠ 0 then 1 else 0) = 1 := if_pos ha
      have h3 : (if a < a + 1 then 1 else 0) = 1 := if_pos (by omega)
      have h4 : (if a < a then 1 else 0) = 0 := if_neg (by omega)
      rw [h1, h2, h3]
      rw [h4] at ih
      omega
    · have h3 : (if a < n + 1 then 1 else 0) = (if a < n then 1 else 0) := by
        by_cases hl : a < n
        · rw [if_pos hl, if_pos (by omega)]
        · rw [if_neg hl, if_neg (by omega)]
      rw [h3]
      by_cases hn : rd u n = 0
      · have h1 : (if rd w (n : Int) ≠ 0 then 1 else 0) = 0 := if_neg (fun h2 => h2 (h n hn))
        rw [h1]
        omega
      · have h2 : (if rd u (n : Int) ≠ 0 then 1 else 0) = 1 := if_pos hn
        have h1 : (if rd w (n : Int) ≠ 0 then 1 else 0) ≤ 1 := by split <;> omega
        rw [h2]
        omega
/-- What a payment does to what is left. -/
theorem pay_left (grp u : List Int) (hu : u.length = 6) (hg : ∀ x ∈ grp, 0 ≤ x ∧ x < 6) (h1 : ¬ fi (negB u) grp < 0) (h2 : ¬ fi (posB u) grp < 0) :
    (0 ≤ (nextPay grp u).f0 ∧ (nextPay grp u).f0 < 6) ∧ (0 ≤ (nextPay grp u).f1 ∧ (nextPay grp u).f1 < 6) ∧ (nextPay grp u).f0 ≠ (nextPay grp u).f1 ∧ rd u (nextPay grp u).f0 < 0 ∧ 0 < rd u (nextPay grp u).f1 ∧
      (nextPay grp u).f2 = mn (-(rd u (nextPay grp u).f0)) (rd u (nextPay grp u).f1) ∧ 1 ≤ (nextPay grp u).f2 ∧ nzTo (pay1 u (nextPay grp u)) 6 < nzTo u 6 := by
  obtain ⟨n0, n1, n2⟩ := (fi_spec (0 : Int) (negB u) grp).resolve_left (by omega)
  obtain ⟨p0, p1, p2⟩ := (fi_spec (0 : Int) (posB u) grp).resolve_left (by omega)
  have hn : rd u (rd grp (fi (negB u) grp)) < 0 := of_decide_eq_true n2
  have hp : 0 < rd u (rd grp (fi (posB u) grp)) := of_decide_eq_true p2
  have mem : ∀ i : Int, 0 ≤ i → i < grp.length → rd grp i ∈ grp := by
    intro i h0 hi
    have : i.toNat < grp.length := by omega
    simp [rd, List.getD, this]
  have ga := hg _ (mem _ n0 n1)
  have gb := hg _ (mem _ p0 p1)
  unfold nextPay
  dsimp only
  generalize rd grp (fi (negB u) grp) = a at *
  generalize rd grp (fi (posB u) grp) = b at *
  have hpe : pay1 u ⟨a, b, mn (-(rd u a)) (rd u b)⟩ = upd (upd u a (rd u a + mn (-(rd u a)) (rd u b))) b (rd (upd u a (rd u a + mn (-(rd u a)) (rd u b))) b - mn (-(rd u a)) (rd u b)) := rfl
  rw [hpe]
  have hab : a ≠ b := by intro e; rw [e] at hn; omega
  have hm : 1 ≤ mn (-(rd u a)) (rd u b) := by unfold mn; split <;> omega
  refine ⟨ga, gb, hab, hn, hp, rfl, hm, ?_⟩
  have hrb : rd (upd u a (rd u a + mn (-(rd u a)) (rd u b))) b = rd u b := by rw [rd_upd _ _ _ _ ga.1 (by omega) gb.1, if_neg (Ne.symm hab)]
  rw [hrb]
  have hval : ∀ j : Nat, rd (upd (upd u a (rd u a + mn (-(rd u a)) (rd u b))) b (rd u b - mn (-(rd u a)) (rd u b))) j = if (j : Int) = b then rd u b - mn (-(rd u a)) (rd u b) else if (j : Int) = a then rd u a + mn (-(rd u a)) (rd u b) else rd u j := by
    intro j
    rw [rd_upd _ _ _ _ gb.1 (by rw [upd_length]; omega) (by omega), rd_upd _ _ _ _ ga.1 (by omega) (by omega)]
  have hkeep : ∀ j : Nat, rd u j = 0 → rd (upd (upd u a (rd u a + mn (-(rd u a)) (rd u b))) b (rd u b - mn (-(rd u a)) (rd u b))) j = 0 := by
    intro j hj
    rw [hval j]
    by_cases e1 : (j : Int) = b
    · rw [e1] at hj; omega
    · by_cases e2 : (j : Int) = a
      · rw [e2] at hj; omega
      · rw [if_neg e1, if_neg e2]; exact hj
  by_cases hc : rd u b < -(rd u a)
  · have hmv : mn (-(rd u a)) (rd u b) = rd u b := by unfold mn; rw [if_pos hc]
    have := nz_change u _ b.toNat (by rw [show ((b.toNat : Nat) : Int) = b by omega]; omega) (by rw [hval, if_pos (by omega), hmv]; omega) hkeep 6
    rw [if_pos (by omega)] at this
    omega
  · have hmv : mn (-(rd u a)) (rd u b) = -(rd u a) := by unfold mn; rw [if_neg hc]
    have := nz_change u _ a.toNat (by rw [show ((a.toNat : Nat) : Int) = a by omega]; omega) (by rw [hval, if_neg (by omega), if_pos (by omega), hmv]; omega) hkeep 6
    rw [if_pos (by omega)] at this
    omega
set_option maxHeartbeats 1000000 in
set_option maxRecDepth 100000 in
theorem neg_calls (bx : Nat) (u : List Int) (x : Int) (w : World) (hb : w.heap[bx]? = some (.cells (u.map (Value.int .i64)).toArray 128 (0, 0))) (hu : u.length = 6) (h0 : 0 ≤ x) (h6 : x < 6) :
    Calls Try.prog 114 #[.int .i64 x, .pointer (some ⟨bx, 0, none⟩)] w fun e w' => e = .returned (.bool (negB u x)) ∧ w = w' := by
  have hc := (blk_int u hb x h0 (by omega)).1
  have hu128 := Try.underlying128
  clear hb
  go_enter Try.func114, Try.ntmps114
  go_wp2
  go_ret
  exact ⟨rfl, rfl⟩
set_option maxHeartbeats 1000000 in
set_option maxRecDepth 100000 in
theorem pos_calls (bx : Nat) (u : List Int) (x : Int) (w : World) (hb : w.heap[bx]? = some (.cells (u.map (Value.int .i64)).toArray 128 (0, 0))) (hu : u.length = 6) (h0 : 0 ≤ x) (h6 : x < 6) :
    Calls Try.prog 115 #[.int .i64 x, .pointer (some ⟨bx, 0, none⟩)] w fun e w' => e = .returned (.bool (posB u x)) ∧ w = w' := by
  have hc := (blk_int u hb x h0 (by omega)).1
  have hu128 := Try.underlying128
  clear hb
  go_enter Try.func115, Try.ntmps115
  go_wp2
  go_ret
  exact ⟨rfl, rfl⟩
set_option maxHeartbeats 1000000 in
set_option maxRecDepth 100000 in
theorem idxN.calls (p : Int → Bool) (cp : Array Value) (A0 : Option Addr) (c0 : Nat) (l0 : List Int) (w : World) (hr0 : Kd.C (Kd.int .i64) w A0 l0.length l0) (hc0 : l0.length ≤ c0)
    (hlen : (l0.length : Int) ≤ 140737488355328)
    (hf : ∀ (i : Int), 0 ≤ i → i < l0.length → Calls Try.prog 114 (#[.int .i64 (rd l0 i)] ++ cp) w fun e w' => e = .returned (.bool (p (rd l0 i))) ∧ w = w') :
    Calls Try.prog 113 #[.slice A0 l0.length c0, .func (.func 114) #[] cp] w fun e w' => e = .returned (.int .i64 (fi p l0)) ∧ w = w' := by
  have HR0 := mkA hr0
  have HC0 := mkA hc0
  have HF := mkA hf
  clear hr0 hc0 hf
  go_enter Try.func113, Try.ntmps113
  go_wp2
  go_loopw [8] (fun i wr => ∃ k : Int, 0 ≤ k ∧ k ≤ l0.length ∧ i = .int .i64 k ∧ Aside0 (∀ j : Int, 0 ≤ j → j < k → p (rd l0 j) = false) ∧ w = wr) (fun i _ => l0.length - (intOf i).toNat)
  case atStart => exact ⟨0, by omega, by omega, rfl, ⟨fun j h0 h1 => by omega⟩, rfl⟩
  case round =>
    obtain ⟨k, hk1, hk2, rfl, HN, hb⟩ := hrel
    subst hb
    by_cases hlt : k < l0.length
    · have c3b0 : decide (k < (l0.length : Int)) = true := decide_eq_true hlt
      obtain ⟨ad1, e1, hx1⟩ := Kd.at_int HR0.out k (by omega) hlt
      cases e1
      have HC := mkA (HF.out k hk1 hlt)
      have p1 : 0 ≤ k := by omega
      go_wp2_with fail
      refine HC.out.mono ?_
      rintro e w' ⟨rfl, hb'⟩
      subst hb'
      clear hx1
      cases hp : p (rd l0 k) with
      | true =>
        have HP := mkA hp
        clear hp
        go_wp2
        go_ret
        exact ⟨by rw [fi_some (0 : Int) p l0 k hk1 hlt HN.out HP.out]; rfl, rfl⟩
      | false =>
        have HP := mkA hp
        clear hp
        go_wp2
        go_roundw
        case rel =>
          refine ⟨k + 1, by omega, by omega, by go_num, ⟨fun j h0 h1 => ?_⟩, by first | rfl | trivial⟩
          by_cases hj : j < k
          · exact HN.out j h0 hj
          · obtain rfl : j = k := by omega
            exact HP.out
        case measure => simp [intOf]; omega
    · have c3b0 : decide (k < (l0.length : Int)) = false := decide_eq_false hlt
      obtain rfl : k = l0.length := by omega
      go_wp2
      go_ret
      exact ⟨by rw [fi_none (0 : Int) p l0 HN.out]; rfl, rfl⟩
set_option maxHeartbeats 1000000 in
set_option maxRecDepth 100000 in
theorem idxP.calls (p : Int → Bool) (cp : Array Value) (A0 : Option Addr) (c0 : Nat) (l0 : List Int) (w : World) (hr0 : Kd.C (Kd.int .i64) w A0 l0.length l0) (hc0 : l0.length ≤ c0)
    (hlen : (l0.length : Int) ≤ 140737488355328)
    (hf : ∀ (i : Int), 0 ≤ i → i < l0.length → Calls Try.prog 115 (#[.int .i64 (rd l0 i)] ++ cp) w fun e w' => e = .returned (.bool (p (rd l0 i))) ∧ w = w') :
    Calls Try.prog 113 #[.slice A0 l0.length c0, .func (.func 115) #[] cp] w fun e w' => e = .returned (.int .i64 (fi p l0)) ∧ w = w' := by
  have HR0 := mkA hr0
  have HC0 := mkA hc0
  have HF := mkA hf
  clear hr0 hc0 hf
  go_enter Try.func113, Try.ntmps113
  go_wp2
  go_loopw [8] (fun i wr => ∃ k : Int, 0 ≤ k ∧ k ≤ l0.length ∧ i = .int .i64 k ∧ Aside0 (∀ j : Int, 0 ≤ j → j < k → p (rd l0 j) = false) ∧ w = wr) (fun i _ => l0.length - (intOf i).toNat)
  case atStart => exact ⟨0, by omega, by omega, rfl, ⟨fun j h0 h1 => by omega⟩, rfl⟩
  case round =>
    obtain ⟨k, hk1, hk2, rfl, HN, hb⟩ := hrel
    subst hb
    by_cases hlt : k < l0.length
    · have c3b0 : decide (k < (l0.length : Int)) = true := decide_eq_true hlt
      obtain ⟨ad1, e1, hx1⟩ := Kd.at_int HR0.out k (by omega) hlt
      cases e1
      have HC := mkA (HF.out k hk1 hlt)
      have p1 : 0 ≤ k := by omega
      go_wp2_with fail
      refine HC.out.mono ?_
      rintro e w' ⟨rfl, hb'⟩
      subst hb'
      clear hx1
      cases hp : p (rd l0 k) with
      | true =>
        have HP := mkA hp
        clear hp
        go_wp2
        go_ret
        exact ⟨by rw [fi_some (0 : Int) p l0 k hk1 hlt HN.out HP.out]; rfl, rfl⟩
      | false =>
        have HP := mkA hp
        clear hp
        go_wp2
        go_roundw
        case rel =>
          refine ⟨k + 1, by omega, by omega, by go_num, ⟨fun j h0 h1 => ?_⟩, by first | rfl | trivial⟩
          by_cases hj : j < k
          · exact HN.out j h0 hj
          · obtain rfl : j = k := by omega
            exact HP.out
        case measure => simp [intOf]; omega
    · have c3b0 : decide (k < (l0.length : Int)) = false := decide_eq_false hlt
      obtain rfl : k = l0.length := by omega
      go_wp2
      go_ret
      exact ⟨by rw [fi_none (0 : Int) p l0 HN.out]; rfl, rfl⟩
end Go.Proofs.Ytncaadckehikpaa.Q
namespace Go.Proofs.Ytncaadckehikpaa.Q
open Go.RowKit Go.Proofs.YtncaadckehikpaaW.PrintWords Go.Proofs.YtncaadckehikpaaW.PrintLast Go.Proofs.YtncaadckehikpaaW.PrintMore
set_option linter.unusedVariables false
set_option linter.unusedSimpArgs false
set_option maxHeartbeats 4000000 in
set_option maxRecDepth 100000 in
theorem settle_calls (g mb : Nat) (v : List Int) (Ag : Option Addr) (cg : Nat) (grp : List Int) (w : World) (hvl : v.length = 6) (hv : ∀ j, -480 ≤ rd v j ∧ rd v j ≤ 480) (hp : PurseAt w g mb v)
    (hrg : Kd.C (Kd.int .i64) w Ag grp.length grp) (hcg : grp.length ≤ cg) (hlen : grp.length ≤ 6) (hg : ∀ x ∈ grp, 0 ≤ x ∧ x < 6) :
    Calls Try.prog 90 #[.pointer (some ⟨g, 0, none⟩), .slice Ag grp.length cg] w fun e w' => ∃ v0, e = .returned v0 ∧ Kd.R k76 76 w' w.heap.size (fun _ => True) v0 (settleL grp v) ∧ Below w.heap.size w w' := by
  have hu157 := Try.underlying157
  have hu128 := Try.underlying128
  have hu76 := Try.underlying76
  have HRG := mkA hrg
  have HCG := mkA hcg
  have HGG := mkA hg
  have hlt := z22 hp
  obtain ⟨x0, x1, x2, x3, x4, x5, x6⟩ := hp.cells
  clear hp hrg hcg hg
  go_enter Try.func90, Try.ntmps90
  go_wp2
  clear x0 x1 x2 x3 x4 x5 x6
  have HB0 := mkA (show Below w.heap.size w (w.alloc (.cells #[.int .i64 (rd v 0), .int .i64 (rd v 1), .int .i64 (rd v 2), .int .i64 (rd v 3), .int .i64 (rd v 4), .int .i64 (rd v 5)] 128)) from z10 (Below.refl _ _) _)
  have HK0 := mkA (show (w.alloc (.cells #[.int .i64 (rd v 0), .int .i64 (rd v 1), .int .i64 (rd v 2), .int .i64 (rd v 3), .int .i64 (rd v 4), .int .i64 (rd v 5)] 128)).heap[w.heap.size]? = some (.cells (v.map (Value.int .i64)).toArray 128 (0, 0)) by rw [six_map hvl]; exact z19 w _)
  have hnz := nz_le v 6
  go_loopg [4] 7 (fun kq v4 wr => ∃ (outs : List S76) (u : List Int), u.length = 6 ∧ Aside0 (∀ j, -480 ≤ rd u j ∧ rd u j ≤ 480) ∧ Aside0 (nzTo u 6 < kq) ∧ outs.length + kq ≤ 7 ∧ Aside0 (settleL grp v = outs ++ z37 grp kq u) ∧ Aside0 (Kd.R k76 76 wr w.heap.size (fun _ => True) v4 outs) ∧ Aside0 (wr.heap[w.heap.size]? = some (.cells (u.map (Value.int .i64)).toArray 128 (0, 0))) ∧ Below w.heap.size w wr)
  case atStart => exact ⟨[], v, hvl, ⟨hv⟩, ⟨by omega⟩, by simp, ⟨rfl⟩, ⟨Kd.R_nil _ _ _ _ _⟩, HK0, HB0.out⟩
  case round =>
    obtain ⟨outs, u, hul, HU, HNZ, hok, HSL, HR, HK, hb⟩ := hrel
    have HB := mkA hb
    clear hb HB0 HK0 hnz hv
    have hlen2 : (grp.length : Int) ≤ 140737488355328 := by omega
    have HI1 := mkA (idxN.calls (negB u) #[.pointer (some ⟨w.heap.size, 0, none⟩)] Ag cg grp wr (Kd.C_below HRG.out HB.out) HCG.out hlen2 (fun i h0 hi => neg_calls w.heap.size u (rd grp i) wr HK.out hul (by
      have := HGG.out (rd grp i) (by have : i.toNat < grp.length := by omega
                                     simp [rd, List.getD, this]); omega) (by
      have := HGG.out (rd grp i) (by have : i.toNat < grp.length := by omega
                                     simp [rd, List.getD, this]); omega)))
    have HI2 := mkA (idxP.calls (posB u) #[.pointer (some ⟨w.heap.size, 0, none⟩)] Ag cg grp wr (Kd.C_below HRG.out HB.out) HCG.out hlen2 (fun i h0 hi => pos_calls w.heap.size u (rd grp i) wr HK.out hul (by
      have := HGG.out (rd grp i) (by have : i.toNat < grp.length := by omega
                                     simp [rd, List.getD, this]); omega) (by
      have := HGG.out (rd grp i) (by have : i.toNat < grp.length := by omega
                                     simp [rd, List.getD, this]); omega)))
    obtain ⟨gq, rfl⟩ : ∃ q, gk = q + 1 := ⟨gk - 1, by have := HNZ.out; omega⟩
    go_wp2_with fail
    refine HI1.out.mono ?_
    rintro e w1 ⟨rfl, hw⟩
    subst hw
    go_wp2_with fail
    refine HI2.out.mono ?_
    rintro e w1 ⟨rfl, hw⟩
    subst hw
    clear HI1 HI2
    by_cases h1 : fi (negB u) grp < 0
    · have g1 : decide (fi (negB u) grp < 0) = true := decide_eq_true h1
      have HSE := mkA (show settleL grp v = outs by rw [HSL.out]; simp only [z37]; rw [if_pos (.inl h1), List.append_nil])
      clear h1
      go_wp2
      go_ret
      exact ⟨_, rfl, by rw [HSE.out]; exact HR.out, HB.out⟩
    by_cases h2 : fi (posB u) grp < 0
    · have g1 : decide (fi (negB u) grp < 0) = false := decide_eq_false h1
      have g2 : decide (fi (posB u) grp < 0) = true := decide_eq_true h2
      have HSE := mkA (show settleL grp v = outs by rw [HSL.out]; simp only [z37]; rw [if_pos (.inr h2), List.append_nil])
      clear h1 h2
      go_wp2
      go_ret
      exact ⟨_, rfl, by rw [HSE.out]; exact HR.out, HB.out⟩
    have g1 : decide (fi (negB u) grp < 0) = false := decide_eq_false h1
    have g2 : decide (fi (posB u) grp < 0) = false := decide_eq_false h2
    have HPL := mkA (pay_left grp u hul HGG.out h1 h2)
    have HSF := mkA (show z37 grp (gq + 1) u = nextPay grp u :: z37 grp gq (pay1 u (nextPay grp u)) by simp only [z37]; rw [if_neg (by rintro (h | h); exact h1 h; exact h2 h)])
    obtain ⟨n0, n1, _⟩ := (fi_spec (0 : Int) (negB u) grp).resolve_left (by omega)
    obtain ⟨p0, p1, _⟩ := (fi_spec (0 : Int) (posB u) grp).resolve_left (by omega)
    obtain ⟨ad1, e1, y1⟩ := Kd.at_int (Kd.C_below HRG.out HB.out) (fi (negB u) grp) n0 n1
    cases e1
    obtain ⟨ad2, e2, y2⟩ := Kd.at_int (Kd.C_below HRG.out HB.out) (fi (posB u) grp) p0 p1
    obtain rfl := Option.some.inj e2
    clear e2 h1 h2
    have hna : rd grp (fi (negB u) grp) = (nextPay grp u).f0 := rfl
    have hnb : rd grp (fi (posB u) grp) = (nextPay grp u).f1 := rfl
    rw [hna] at y1
    rw [hnb] at y2
    clear hna hnb
    generalize nextPay grp u = p at *
    generalize fi (negB u) grp = i1 at *
    generalize fi (posB u) grp = i2 at *
    go_wp2
    go_quiet (fail)
    go_wp2
    obtain ⟨⟨q1, q2⟩, ⟨q3, q4⟩, hne, hn1, hn2, hmn, hone, hnzp⟩ := HPL.out
    have HBq := mkA (show Below w.heap.size w (wr.drewN nq) from z11 HB.out nq)
    have HKq := mkA (show (wr.drewN nq).heap[w.heap.size]? = some (.cells (u.map (Value.int .i64)).toArray 128 (0, 0)) from HK.out)
    have HRq := mkA (Kd.R_drewN HR.out nq)
    clear y1 y2 HB HK HR
    generalize wr.drewN nq = wq at HBq HKq HRq ⊢
    have HB5 := mkA (show Below w.heap.size w wq.drew from z13 HBq.out)
    have HK5 := mkA (show wq.drew.heap[w.heap.size]? = some (.cells (u.map (Value.int .i64)).toArray 128 (0, 0)) from HKq.out)
    have HR5 := mkA (Kd.R_drew HRq.out)
    clear HBq HKq HRq
    have HHE := mkA hmn
    have HNZP := mkA hnzp
    have HNE := mkA hne
    have hu1 := HU.out p.f0
    have hu2 := HU.out p.f1
    clear HPL hmn hnzp hne
    have hy1 := (blk_int u HK5.out p.f0 q1 (by omega)).1
    have hy2 := (blk_int u HK5.out p.f1 q3 (by omega)).1
    go_still_tail 7, (by kernel_rfl)
    change wpList _ _ _ _ _ wq.drew
    generalize wq.drew = w5 at *
    go_wp2_with fail
    have hp2 : p.f2 ≤ 480 := by have := HHE.out; unfold mn at this; split at this <;> omega
    have HMI := mkA (soap_minimum.calls (some ⟨w5.heap.size, 0, none⟩) 2 [-(rd u p.f0), rd u p.f1] p.f2 (w5.alloc (.cells #[.int .i64 (-(rd u p.f0)), .int .i64 (rd u p.f1)] 3))
      (C_ints [-(rd u p.f0), rd u p.f1] (by simp) (z19 w5 _)) (by simp) (by
        unfold soap_minimum.f; rw [if_pos (by simp)]; rw [HHE.out]; simp [minTo, rd, mn]))
    refine HMI.out.mono ?_
    rintro e w6 ⟨rfl, ⟨mm, hw6⟩⟩
    have HB6 := mkA (show Below w.heap.size w w6 by rw [hw6]; exact z11 (z10 HB5.out _) _)
    have HK6 := mkA (show w6.heap[w.heap.size]? = some (.cells (u.map (Value.int .i64)).toArray 128 (0, 0)) by rw [hw6]; exact blk_below HK5.out (z11 (z10 (Below.refl _ _) _) mm))
    have HR6 := mkA (show Kd.R k76 76 w6 w.heap.size (fun _ => True) u4 outs by rw [hw6]; exact Kd.R_drewN (Kd.R_alloc HR5.out _) _)
    clear hw6 HMI HB5 HK5 HR5 hy1 hy2
    obtain ⟨hy1, hy2⟩ := blk_int u HK6.out p.f0 q1 (by omega)
    have HK7 := mkA (blk_set u HK6.out p.f0 (rd u p.f0 + p.f2))
    have hrb : rd (upd u p.f0 (rd u p.f0 + p.f2)) p.f1 = rd u p.f1 := by rw [rd_upd _ _ _ _ q1 (by omega) q3, if_neg (Ne.symm HNE.out)]
    have hul1 : (upd u p.f0 (rd u p.f0 + p.f2)).length = 6 := by rw [upd_length]; exact hul
    obtain ⟨hy3, hy4⟩ := blk_int _ HK7.out p.f1 q3 (by omega)
    rw [hrb] at hy3
    have HK8 := mkA (blk_set _ HK7.out p.f1 (rd u p.f1 - p.f2))
    have HPY := mkA (show pay1 u p = upd (upd u p.f0 (rd u p.f0 + p.f2)) p.f1 (rd u p.f1 - p.f2) by unfold pay1; simp only; rw [hrb])
    have HB8 := mkA (show Below w.heap.size w ((w6.setCell ⟨w.heap.size, p.f0.toNat, none⟩ (.int .i64 (rd u p.f0 + p.f2))).setCell ⟨w.heap.size, p.f1.toNat, none⟩ (.int .i64 (rd u p.f1 - p.f2))) from z15 (z15 HB6.out (Nat.le_refl _)) (Nat.le_refl _))
    have HR8 := mkA (Kd.R_set (Kd.R_set HR6.out HK6.out (by decide) p.f0.toNat (.int .i64 (rd u p.f0 + p.f2))) HK7.out (by decide) p.f1.toNat (.int .i64 (rd u p.f1 - p.f2)))
    have HKP := mkA (fun (w9 : World) (hg : World.grownBy ((w6.setCell ⟨w.heap.size, p.f0.toNat, none⟩ (.int .i64 (rd u p.f0 + p.f2))).setCell ⟨w.heap.size, p.f1.toNat, none⟩ (.int .i64 (rd u p.f1 - p.f2))) w9 u4.ownBlock) => show w9.heap[w.heap.size]? = some (.cells ((pay1 u p).map (Value.int .i64)).toArray 128 (0, 0)) by
      rw [hg.block w.heap.size (z22 HK8.out) (fun e => by
        obtain ⟨cells, hc⟩ := Kd.R_typed HR8.out w.heap.size e.symm
        rw [HK8.out] at hc
        injection hc with hc
        injection hc with _ hc
        cases hc), HPY.out]
      exact HK8.out)
    have HSZ : ((w6.setCell ⟨w.heap.size, p.f0.toNat, none⟩ (.int .i64 (rd u p.f0 + p.f2))).setCell ⟨w.heap.size, p.f1.toNat, none⟩ (.int .i64 (rd u p.f1 - p.f2))).heap.size = w6.heap.size := by simp [World.setCell]
    clear hrb HK7
    go_wp2_with ((with_reducible refine z35 (b := .append) (xs := #[.tmp 57, .tmp 62]) rfl ?_); at_builtin; refine Kd.R_append k76 (w0 := w) w.heap.size rfl (.tmp 57) (.tmp 62) 69 76 (.agg #[(.int .i64 0), (.int .i64 0), (.int .i64 0)]) 24 rfl Try.underlying69 info76 rfl (by decide) (by omega) u4 outs p [.int .i64 p.f0, .int .i64 p.f1, .int .i64 p.f2] (fun _ => True) (fun _ => False) rfl (by rw [HSZ]; rfl) ?aP (fun _ hk => hk.elim) ?aF ?aO ?aB ?aS ?aL ?_; (case aP => exact k76_mkM _ _ _ p); (case aB => exact HB8.out); (case aF => exact (fun _ _ => trivial)); (case aO => exact HR8.out); (case aS => exact HB8.out.size); (case aL => omega); intro v9 w9 ho hb hg hat; have n0_ := mkA ho; have n1_ := mkA hb; have n2_ := mkA (HKP.out w9 hg); clear ho hb hg hat)
    go_roundg gq
    case measure => omega
    case rel =>
      refine ⟨outs ++ [p], pay1 u p, by rw [pay1_length]; exact hul, ⟨?_⟩, ⟨by have := HNZ.out; have := HNZP.out; omega⟩, by simp; omega, ⟨by rw [HSL.out, HSF.out]; simp⟩, n0_, n2_, n1_.out⟩
      intro j
      rw [HPY.out]
      have hm := HHE.out
      exact rd_upd_bd _ _ _ 480 (rd_upd_bd u _ _ 480 HU.out (by unfold mn at hm; split at hm <;> omega)) (by unfold mn at hm; split at hm <;> omega) j
end Go.Proofs.Ytncaadckehikpaa.Q
namespace Go.Proofs.Ytncaadckehikpaa.Q
open Go.RowKit Go.Proofs.YtncaadckehikpaaW.PrintWords Go.Proofs.YtncaadckehikpaaW.PrintLast Go.Proofs.YtncaadckehikpaaW.PrintMore
set_option linter.unusedVariables false
set_option linter.unusedSimpArgs false
/-- The payments of all the groups. -/
def z34 (v : List Int) : List (List Int) → List S76
  | [] => []
  | g :: r => settleL g v ++ z34 v r
theorem settleAll_append (v : List Int) : ∀ (xs ys : List (List Int)), z34 v (xs ++ ys) = z34 v xs ++ z34 v ys
  | [], _ => rfl
  | x :: r, ys => by simp [z34, settleAll_append v r ys]
theorem settleFrom_len (grp : List Int) : ∀ k u, (z37 grp k u).length ≤ k
  | 0, _ => by simp [z37]
  | k + 1, u => by
    simp only [z37]
    split
    · simp
    · simp; exact settleFrom_len grp k _
theorem settleL_len (grp v : List Int) : (settleL grp v).length ≤ 7 := settleFrom_len grp 7 v
theorem settleAll_take (v : List Int) (gs : List (List Int)) (n : Nat) (h : n < gs.length) : z34 v (gs.take (n + 1)) = z34 v (gs.take n) ++ settleL (gs.getD n []) v := by
  rw [List.take_add_one, settleAll_append, List.getElem?_eq_getElem h]
  simp [z34, List.getD, h]
theorem settleAll_len (v : List Int) : ∀ gs : List (List Int), (z34 v gs).length ≤ 7 * gs.length
  | [] => by simp [z34]
  | x :: r => by have := settleAll_len v r; have := settleL_len x v; simp [z34]; omega
theorem bitsL_len (m : Nat) : (bitsL m).length ≤ 6 := by
  unfold bitsL
  rw [List.length_map]
  exact Nat.le_trans (List.length_filter_le _ _) (by simp)
theorem bitsL_lt (m : Nat) : ∀ x ∈ bitsL m, 0 ≤ x ∧ x < 6 := by
  intro x hx
  unfold bitsL at hx
  obtain ⟨y, hy, rfl⟩ := List.mem_map.1 hx
  have := List.mem_range.1 (List.mem_filter.1 hy).1
  simp
  omega
theorem groupsFrom_bits (v : List Int) : ∀ k m gr, ∀ g ∈ z31 v k m gr, ∃ b, g = bitsL b
  | 0, _, _ => by simp [z31]
  | k + 1, m, gr => by
    simp only [z31]
    split
    · simp
    · split
      · simp
      · split
        · rintro g (_ | ⟨_, hg⟩)
          · exact ⟨_, rfl⟩
          · exact groupsFrom_bits v k _ _ g hg
        · exact groupsFrom_bits v k _ _
theorem groups_good (v : List Int) (n : Nat) (h : n < (groupsL v).length) : ((groupsL v).getD n []).length ≤ 6 ∧ ∀ x ∈ (groupsL v).getD n [], 0 ≤ x ∧ x < 6 := by
  have hm : (groupsL v).getD n [] ∈ groupsL v := by simp [List.getD, h]
  obtain ⟨b, hb⟩ := groupsFrom_bits v _ _ _ _ hm
  rw [hb]
  exact ⟨bitsL_len b, bitsL_lt b⟩
def soap_Settle.f (a0_0 : Int) (l0_1 : List (S122)) (l0_2 : List (S124)) (l1 : List Int) : Option (List S76 × Int) :=
  some (if playE a0_0 l0_1 l0_2 l1 = 0 then (z34 (owedL l0_1 l1) (groupsL (owedL l0_1 l1)), 0) else ([], playE a0_0 l0_1 l0_2 l1))
set_option maxHeartbeats 2000000 in
set_option maxRecDepth 100000 in
theorem soap_Settle.calls (a0_0 : Int) (A0_1 : Option Addr) (c0_1 : Nat) (l0_1 : List (S122)) (A0_2 : Option Addr) (c0_2 : Nat) (l0_2 : List (S124)) (A1 : Option Addr) (c1 : Nat) (l1 : List Int) (r1 : List S76) (r2 : Int) (w : World) (hr0_1 : Kd.C k122 w A0_1 l0_1.length l0_1) (hc0_1 : l0_1.length ≤ c0_1) (hr0_2 : Kd.C k124 w A0_2 l0_2.length l0_2) (hc0_2 : l0_2.length ≤ c0_2) (hr1 : Kd.C (Kd.int .i64) w A1 l1.length l1) (hc1 : l1.length ≤ c1) (h : soap_Settle.f a0_0 l0_1 l0_2 l1 = some (r1, r2)) :
    Calls Try.prog 49 #[.agg #[.int .i64 a0_0, .slice A0_1 l0_1.length c0_1, .slice A0_2 l0_2.length c0_2], .slice A1 l1.length c1] w fun e w' => ∃ v0_ : Value, e = .returned (.tuple #[v0_, .int .i64 r2]) ∧ Kd.R k76 76 w' w.heap.size (fun _ => True) v0_ r1 ∧ Below w.heap.size w w' := by
  have hu35 := Try.underlying35
  have hu128 := Try.underlying128
  have h2 := Option.some.inj h
  clear h
  have hbw : Below w.heap.size w (w.alloc (.cells #[.int .i64 a0_0, .slice A0_1 l0_1.length c0_1, .slice A0_2 l0_2.length c0_2] 35)) := z10 (Below.refl _ _) _
  have HP := mkA (played_calls a0_0 A0_1 c0_1 l0_1 A0_2 c0_2 l0_2 A1 c1 l1 _ (Kd.C_below hr0_1 hbw) hc0_1 (Kd.C_below hr0_2 hbw) hc0_2 (Kd.C_below hr1 hbw) hc1)
  have HBW := mkA hbw
  clear hbw hr0_1 hr0_2 hr1
  by_cases hE : playE a0_0 l0_1 l0_2 l1 = 0
  · rw [if_pos hE] at h2
    obtain ⟨rfl, rfl⟩ := Prod.mk.inj h2
    obtain ⟨hck, har, hV⟩ := playE_zero hE
    have HVB := mkA (owed_small hck har)
    have hvl : (owedL l0_1 l1).length = 6 := by unfold owedL; exact z38 _ _ _
    rw [hE, hV] at HP
    clear h2 hE hck har hV
    go_enter Try.func49, Try.ntmps49
    go_wp2_with fail
    refine HP.out.mono ?_
    rintro e w1 ⟨rfl, hb⟩
    have HB1 := mkA (z16 HBW.out hb)
    clear hb HBW HP
    generalize hvv : owedL l0_1 l1 = v at HVB hvl ⊢
    have HVV := mkA hvv
    clear hvv
    have HPU := mkA (purse_calls v (w1.alloc (.cells #[.int .i64 (rd v 0), .int .i64 (rd v 1), .int .i64 (rd v 2), .int .i64 (rd v 3), .int .i64 (rd v 4), .int .i64 (rd v 5)] 128)))
    unfold aggV at HPU ⊢
    go_wp2_with fail
    refine HPU.out.mono ?_
    rintro e w2 ⟨g, mb, rfl, hp, hmm, hne, hg1, hg2, hb⟩
    have HB2 := mkA (z16 (z10 HB1.out _) hb)
    have hmb : w.heap.size ≤ mb := by have := HB1.out.size; simp at hg1; omega
    have HGR := mkA (groups_calls g mb v w2 (fun j => by have := HVB.out j; omega) hne hp hmm)
    have HP2 := mkA hp
    have HMB := mkA (And.intro hmb hne)
    clear hp hmm hne hg1 hg2 hb hmb HPU
    go_wp2_with fail
    refine HGR.out.mono ?_
    rintro e w3 ⟨v0, rfl, hs, hbut, _⟩
    obtain ⟨A, c, rfl, hlc, hC⟩ := Kd.S_reads hs
    have HG3 := mkA hC
    have HP3 := mkA (show PurseAt w3 g mb v from hbut.keeps HP2.out HMB.out.2)
    have HB3 := mkA (((But.of_below HB2.out).trans hbut).below HMB.out.1)
    have hgl : (groupsL v).length ≤ 64 := groups_len v 64 _ 0
    clear hs hbut HGR hC HP2 HMB HB2 HB1
    generalize hgg : groupsL v = gs at HG3 hgl hlc ⊢
    have HGD := mkA (fun n h => groups_good v n (by rw [hgg]; exact h))
    rw [hgg] at HGD
    have HGG := mkA hgg
    clear hgg
    go_wp2_with fail
    go_loopw [8, 26] (fun v8 i wr => ∃ (k : Int) (outs : List S76), 0 ≤ k ∧ k ≤ (gs.length : Int) ∧ i = .int .i64 k ∧ Aside0 (outs = z34 v (gs.take k.toNat)) ∧ Aside0 (Kd.R k76 76 wr w3.heap.size (fun _ => True) v8 outs) ∧ Below w3.heap.size w3 wr) (fun _ i _ => gs.length - (intOf i).toNat)
    case atStart => exact ⟨0, [], by omega, by omega, rfl, ⟨by simp [z34]⟩, ⟨Kd.R_nil _ _ _ _ _⟩, Below.refl _ _⟩
    case round =>
      obtain ⟨k, outs, hk0, hk1, rfl, HOU, HR, hb⟩ := hrel
      have HB := mkA hb
      clear hb
      by_cases hlt : k < (gs.length : Int)
      · have g1 : decide (k < (gs.length : Int)) = true := decide_eq_true hlt
        obtain ⟨ad, A0, c0, rfl, y1, y2, y3⟩ := at_L4 (Kd.C_below HG3.out HB.out) k hk0 hlt
        have HY3 := mkA y3
        clear y3
        obtain ⟨q1, q2⟩ := HGD.out k.toNat (by omega)
        have HSC := mkA (settle_calls g mb v A0 c0 (rd_L4 gs k) wr hvl HVB.out (blk_below HP3.out HB.out) HY3.out y2 q1 q2)
        have hol : outs.length ≤ 7 * gs.length := by
          rw [HOU.out]
          have h1 := settleAll_len v (gs.take k.toNat)
          rw [List.length_take] at h1
          omega
        clear q1 q2 HY3
        go_wp2_with fail
        refine HSC.out.mono ?_
        rintro e w4 ⟨v4, rfl, hr, hb⟩
        obtain ⟨A4, c4, rfl, hl4, hC4⟩ := Kd.R_reads hr
        have HC4 := mkA hC4
        have HB4 := mkA (z16 HB.out hb)
        have HR4 := mkA (Kd.R_below HR.out hb)
        have hs4 := settleL_len (rd_L4 gs k) v
        clear hr hb hC4 HR HSC
        go_wp2_with ((with_reducible refine z35 (b := .append) (xs := #[.tmp 30, .tmp 33]) rfl ?_); at_builtin; refine Kd.R_append_rows k76 (w0 := w3) w3.heap.size rfl (.tmp 30) (.tmp 33) 69 76 (.agg #[(.int .i64 0), (.int .i64 0), (.int .i64 0)]) 24 rfl Try.underlying69 info76 rfl (by decide) (by omega) u8 outs (settleL (rd_L4 gs k) v) _ _ _ (fun _ => True) (fun _ => False) rfl rfl ?aO ?aR (fun _ _ h => h) (fun _ h => h.elim) ?aF ?aB ?aS ?aL ?_; (case aR => exact HC4.out); (case aB => exact HB4.out); (case aF => exact (fun _ _ => trivial)); (case aO => exact HR4.out); (case aS => exact HB4.out.size); (case aL => omega); intro v9 w9 ho hb hg hat; have n0_ := mkA ho; have n1_ := mkA hb; clear ho hb hg hat)
        go_round
        case measure => simp [intOf]; omega
        case rel =>
          refine ⟨k + 1, outs ++ settleL (rd_L4 gs k) v, by omega, by omega, by go_num, ⟨?_⟩, n0_, n1_.out⟩
          rw [HOU.out, show (k + 1).toNat = k.toNat + 1 by omega, settleAll_take v gs k.toNat (by omega)]
          rfl
      · have g1 : decide (k < (gs.length : Int)) = false := decide_eq_false hlt
        obtain rfl : k = gs.length := by omega
        go_wp2
        go_ret2
        refine ⟨u8, rfl, ?_, ?_⟩
        · rw [HVV.out, HGG.out]
          have := HOU.out
          simp only [Int.toNat_natCast, List.take_length] at this
          rw [← this]
          exact Kd.R_lower HR.out HB3.out.size
        · exact z16 HB3.out HB.out
  · rw [if_neg hE] at h2
    obtain ⟨rfl, rfl⟩ := Prod.mk.inj h2
    generalize hq : playE a0_0 l0_1 l0_2 l1 = q at hE HP ⊢
    have g1 : (q != 0) = true := bne_iff_ne.2 hE
    clear h2 hE hq
    go_enter Try.func49, Try.ntmps49
    go_wp2_with fail
    refine HP.out.mono ?_
    rintro e w1 ⟨rfl, hb⟩
    have HB1 := mkA (z16 HBW.out hb)
    clear hb HBW HP
    generalize playV a0_0 l0_1 l0_2 l1 = v
    unfold aggV
    go_wp2
    go_ret2
    exact ⟨_, rfl, Kd.R_nil _ _ _ _ _, z10 HB1.out _⟩
end Go.Proofs.Ytncaadckehikpaa.Q
