/- A part of the proof: contracts of functions and plain facts (HAll, HMin, HBase, HCheck). No condition. -/
import Derived.Lib.Hide
import Derived.Test.YtncaadckehikpaaM4
import Derived.Test.YtncaadckehikpaaM3
namespace Go.Proofs.Ytncaadckehikpaa.Q
open Go.RowKit Go.Proofs.YtncaadckehikpaaW.PrintWords Go.Proofs.YtncaadckehikpaaW.PrintLast Go.Proofs.YtncaadckehikpaaW.PrintMore
set_option linter.unusedVariables false
set_option linter.unusedSimpArgs false
/-- The first place at which a test is met, or -1. -/
def fi {α : Type} (p : α → Bool) (xs : List α) : Int := match xs.findIdx? p with | some i => (i : Int) | none => -1
theorem fi_none {α : Type} (z : α) (p : α → Bool) (xs : List α) (h : ∀ j : Int, 0 ≤ j → j < xs.length → p (xs.getD j.toNat z) = false) : fi p xs = -1 := by
  have : xs.findIdx? p = none := by
    rw [List.findIdx?_eq_none_iff]
    intro x hx
    obtain ⟨n, hn, rfl⟩ := List.getElem_of_mem hx
    have := h n (by omega) (by omega)
    simpa [List.getD, hn] using this
  unfold fi
  rw [this]
theorem fi_some {α : Type} (z : α) (p : α → Bool) (xs : List α) (k : Int) (h0 : 0 ≤ k) (h1 : k < xs.length) (h : ∀ j : Int, 0 ≤ j → j < k → p (xs.getD j.toNat z) = false) (hp : p (xs.getD k.toNat z) = true) : fi p xs = k := by
  have hk : k.toNat < xs.length := by omega
  have : xs.findIdx? p = some k.toNat := by
    rw [List.findIdx?_eq_some_iff_getElem]
    refine ⟨hk, by simpa [List.getD, hk] using hp, fun j hj => ?_⟩
    have h2 := h j (by omega) (by omega)
    have hj' : j < xs.length := by omega
    simpa [List.getD, hj'] using h2
  unfold fi
  rw [this]
  show (k.toNat : Int) = k
  omega
theorem fi_any {α : Type} (p : α → Bool) (xs : List α) : decide (fi p xs ≥ 0) = xs.any p := by
  unfold fi
  cases h : xs.findIdx? p with
  | none =>
    rw [List.findIdx?_eq_none_iff] at h
    simp only [ge_iff_le]
    symm
    rw [show decide ((0 : Int) ≤ -1) = false from rfl, List.any_eq_false]
    intro x hx
    simp [h x hx]
  | some i =>
    have := (List.findIdx?_eq_some_iff_getElem.1 h)
    obtain ⟨hi, hp, _⟩ := this
    have : decide ((i : Int) ≥ 0) = true := by simp
    rw [this]
    symm
    rw [List.any_eq_true]
    exact ⟨_, List.getElem_mem hi, hp⟩
set_option maxHeartbeats 1000000 in
set_option maxRecDepth 100000 in
theorem idx122.calls (p : S122 → Bool) (cp : Array Value) (A0 : Option Addr) (c0 : Nat) (l0 : List S122) (w : World) (hr0 : Kd.C k122 w A0 l0.length l0) (hc0 : l0.length ≤ c0)
    (hlen : (l0.length : Int) ≤ 140737488355328)
    (hf : ∀ (i : Int) (W : World), 0 ≤ i → i < l0.length → Below w.heap.size w W → Calls Try.prog 125 (#[.agg #[.int .i64 (rd_T122 l0 i).f0, .int .i64 (rd_T122 l0 i).f1, .int .i64 (rd_T122 l0 i).f2.f0, .int .i64 (rd_T122 l0 i).f2.f1]] ++ cp) W fun e w' => e = .returned (.bool (p (rd_T122 l0 i))) ∧ Below W.heap.size W w') :
    Calls Try.prog 133 #[.slice A0 l0.length c0, .func (.func 125) #[] cp] w fun e w' => e = .returned (.int .i64 (fi p l0)) ∧ Below w.heap.size w w' := by
  have HR0 := mkA hr0
  have HC0 := mkA hc0
  have HF := mkA hf
  clear hr0 hc0 hf
  go_enter Try.func133, Try.ntmps133
  go_wp2
  go_loopw [8] (fun i wr => ∃ k : Int, 0 ≤ k ∧ k ≤ l0.length ∧ i = .int .i64 k ∧ Aside0 (∀ j : Int, 0 ≤ j → j < k → p (rd_T122 l0 j) = false) ∧ Below w.heap.size w wr) (fun i _ => l0.length - (intOf i).toNat)
  case atStart => exact ⟨0, by omega, by omega, rfl, ⟨fun j h0 h1 => by omega⟩, Below.refl _ _⟩
  case round =>
    obtain ⟨k, hk1, hk2, rfl, HN, hb⟩ := hrel
    have HB := mkA hb
    clear hb
    by_cases hlt : k < l0.length
    · have c3b0 : decide (k < (l0.length : Int)) = true := decide_eq_true hlt
      obtain ⟨ad1, e1, hx1, hx2, hx3, hx4⟩ := at_T122 (Kd.C_below HR0.out HB.out) k (by omega) hlt
      cases e1
      have HC := mkA (HF.out k wr hk1 hlt HB.out)
      have p1 : 0 ≤ k := by omega
      go_wp2_with fail
      refine HC.out.mono ?_
      rintro e w' ⟨rfl, hb'⟩
      have HB2 := mkA (HB.out.trans (hb'.mono HB.out.size))
      clear hx1 hx2 hx3 hx4 hb'
      cases hp : p (rd_T122 l0 k) with
      | true =>
        have HP := mkA hp
        clear hp
        go_wp2
        go_ret
        exact ⟨by rw [fi_some z122 p l0 k hk1 hlt HN.out HP.out]; rfl, HB2.out⟩
      | false =>
        have HP := mkA hp
        clear hp
        go_wp2
        go_roundw
        case rel =>
          refine ⟨k + 1, by omega, by omega, by go_num, ⟨fun j h0 h1 => ?_⟩, HB2.out⟩
          by_cases hj : j < k
          · exact HN.out j h0 hj
          · obtain rfl : j = k := by omega
            exact HP.out
        case measure => simp [intOf]; omega
    · have c3b0 : decide (k < (l0.length : Int)) = false := decide_eq_false hlt
      obtain rfl : k = l0.length := by omega
      go_wp2
      go_ret
      exact ⟨by rw [fi_none z122 p l0 HN.out]; rfl, HB.out⟩
set_option maxHeartbeats 1000000 in
set_option maxRecDepth 100000 in
theorem cont122.calls (p : S122 → Bool) (cp : Array Value) (A0 : Option Addr) (c0 : Nat) (l0 : List S122) (w : World) (hr0 : Kd.C k122 w A0 l0.length l0) (hc0 : l0.length ≤ c0)
    (hlen : (l0.length : Int) ≤ 140737488355328)
    (hf : ∀ (i : Int) (W : World), 0 ≤ i → i < l0.length → Below w.heap.size w W → Calls Try.prog 125 (#[.agg #[.int .i64 (rd_T122 l0 i).f0, .int .i64 (rd_T122 l0 i).f1, .int .i64 (rd_T122 l0 i).f2.f0, .int .i64 (rd_T122 l0 i).f2.f1]] ++ cp) W fun e w' => e = .returned (.bool (p (rd_T122 l0 i))) ∧ Below W.heap.size W w') :
    Calls Try.prog 124 #[.slice A0 l0.length c0, .func (.func 125) #[] cp] w fun e w' => e = .returned (.bool (l0.any p)) ∧ Below w.heap.size w w' := by
  have HC := mkA (idx122.calls p cp A0 c0 l0 w hr0 hc0 hlen hf)
  clear hr0 hc0 hf
  go_enter Try.func124, Try.ntmps124
  go_wp2_with fail
  refine HC.out.mono ?_
  rintro e w' ⟨rfl, hb'⟩
  go_wp2
  go_ret
  exact ⟨by rw [← fi_any]; rfl, hb'⟩
/-- The function literal inside soap.all: it says whether an element does not pass. -/
theorem not122.calls (b : Bool) (x : S122) (sv : Value) (bx : Nat) (w : World) (hbx : w.cell? ⟨bx, 0, none⟩ = some (.func (.func 99) #[sv] #[]))
    (hf : ∀ W : World, Below w.heap.size w W → Calls Try.prog 99 #[sv, .agg #[.int .i64 x.f0, .int .i64 x.f1, .int .i64 x.f2.f0, .int .i64 x.f2.f1]] W fun e w' => e = .returned (.bool b) ∧ Below W.heap.size W w') :
    Calls Try.prog 125 #[.agg #[.int .i64 x.f0, .int .i64 x.f1, .int .i64 x.f2.f0, .int .i64 x.f2.f1], .pointer (some ⟨bx, 0, none⟩)] w fun e w' => e = .returned (.bool (!b)) ∧ Below w.heap.size w w' := by
  have hlt : bx < w.heap.size := World.block_lt_of_cell? w ⟨bx, 0, none⟩ hbx
  have HC := mkA hf
  clear hf
  go_enter Try.func125, Try.ntmps125
  go_wp2_with fail
  refine (HC.out _ (z10 (Below.refl _ _) _)).mono ?_
  rintro e w' ⟨rfl, hb⟩
  have HB := mkA (z16 (z10 (Below.refl _ _) _) hb)
  clear hb hbx hlt HC
  go_wp2
  go_ret
  exact ⟨rfl, HB.out⟩
set_option maxHeartbeats 1000000 in
set_option maxRecDepth 100000 in
/-- soap.all over entries, at the method value of a slate. -/
theorem all122.calls (p : S122 → Bool) (sv : Value) (A0 : Option Addr) (c0 : Nat) (l0 : List S122) (w : World) (hr0 : Kd.C k122 w A0 l0.length l0) (hc0 : l0.length ≤ c0)
    (hlen : (l0.length : Int) ≤ 140737488355328)
    (hf : ∀ (x : S122) (W : World), Below w.heap.size w W → Calls Try.prog 99 #[sv, .agg #[.int .i64 x.f0, .int .i64 x.f1, .int .i64 x.f2.f0, .int .i64 x.f2.f1]] W fun e w' => e = .returned (.bool (p x)) ∧ Below W.heap.size W w') :
    Calls Try.prog 101 #[.slice A0 l0.length c0, .func (.func 99) #[sv] #[]] w fun e w' => e = .returned (.bool (l0.all p)) ∧ Below w.heap.size w w' := by
  have hbw : Below w.heap.size w (w.alloc (.cells #[.func (.func 99) #[sv] #[]] 146)) := z10 (Below.refl _ _) _
  have HCC := mkA (cont122.calls (fun x => !p x) #[.pointer (some ⟨w.heap.size, 0, none⟩)] A0 c0 l0 (w.alloc (.cells #[.func (.func 99) #[sv] #[]] 146)) (Kd.C_below hr0 hbw) hc0 hlen (by
    intro i W h0 h1 hb
    have hcell : W.cell? ⟨w.heap.size, 0, none⟩ = some (.func (.func 99) #[sv] #[]) := (hb.cell (p := ⟨w.heap.size, 0, none⟩) (by simp)).trans (by simp)
    exact not122.calls (p (rd_T122 l0 i)) (rd_T122 l0 i) sv w.heap.size W hcell (fun W2 h2 => hf _ W2 (z16 (z16 hbw hb) h2))))
  clear hf hr0 hc0
  go_enter Try.func101, Try.ntmps101
  go_wp2_with fail
  refine HCC.out.mono ?_
  rintro e w' ⟨rfl, hb⟩
  have HB := mkA (z16 hbw hb)
  clear hb hbw HCC
  go_wp2
  go_ret
  exact ⟨by simp [List.all_eq_not_any_not], HB.out⟩
set_option maxHeartbeats 1000000 in
set_option maxRecDepth 100000 in
theorem idx124.calls (p : S124 → Bool) (cp : Array Value) (A0 : Option Addr) (c0 : Nat) (l0 : List S124) (w : World) (hr0 : Kd.C k124 w A0 l0.length l0) (hc0 : l0.length ≤ c0)
    (hlen : (l0.length : Int) ≤ 140737488355328)
    (hf : ∀ (i : Int) (W : World), 0 ≤ i → i < l0.length → Below w.heap.size w W → Calls Try.prog 127 (#[.agg #[.int .i64 (rd_T124 l0 i).f0, .int .i64 (rd_T124 l0 i).f1.f0, .int .i64 (rd_T124 l0 i).f1.f1]] ++ cp) W fun e w' => e = .returned (.bool (p (rd_T124 l0 i))) ∧ Below W.heap.size W w') :
    Calls Try.prog 134 #[.slice A0 l0.length c0, .func (.func 127) #[] cp] w fun e w' => e = .returned (.int .i64 (fi p l0)) ∧ Below w.heap.size w w' := by
  have HR0 := mkA hr0
  have HC0 := mkA hc0
  have HF := mkA hf
  clear hr0 hc0 hf
  go_enter Try.func134, Try.ntmps134
  go_wp2
  go_loopw [8] (fun i wr => ∃ k : Int, 0 ≤ k ∧ k ≤ l0.length ∧ i = .int .i64 k ∧ Aside0 (∀ j : Int, 0 ≤ j → j < k → p (rd_T124 l0 j) = false) ∧ Below w.heap.size w wr) (fun i _ => l0.length - (intOf i).toNat)
  case atStart => exact ⟨0, by omega, by omega, rfl, ⟨fun j h0 h1 => by omega⟩, Below.refl _ _⟩
  case round =>
    obtain ⟨k, hk1, hk2, rfl, HN, hb⟩ := hrel
    have HB := mkA hb
    clear hb
    by_cases hlt : k < l0.length
    · have c3b0 : decide (k < (l0.length : Int)) = true := decide_eq_true hlt
      obtain ⟨ad1, e1, hx1, hx2, hx3⟩ := at_T124 (Kd.C_below HR0.out HB.out) k (by omega) hlt
      cases e1
      have HC := mkA (HF.out k wr hk1 hlt HB.out)
      have p1 : 0 ≤ k := by omega
      go_wp2_with fail
      refine HC.out.mono ?_
      rintro e w' ⟨rfl, hb'⟩
      have HB2 := mkA (HB.out.trans (hb'.mono HB.out.size))
      clear hx1 hx2 hx3 hb'
      cases hp : p (rd_T124 l0 k) with
      | true =>
        have HP := mkA hp
        clear hp
        go_wp2
        go_ret
        exact ⟨by rw [fi_some z124 p l0 k hk1 hlt HN.out HP.out]; rfl, HB2.out⟩
      | false =>
        have HP := mkA hp
        clear hp
        go_wp2
        go_roundw
        case rel =>
          refine ⟨k + 1, by omega, by omega, by go_num, ⟨fun j h0 h1 => ?_⟩, HB2.out⟩
          by_cases hj : j < k
          · exact HN.out j h0 hj
          · obtain rfl : j = k := by omega
            exact HP.out
        case measure => simp [intOf]; omega
    · have c3b0 : decide (k < (l0.length : Int)) = false := decide_eq_false hlt
      obtain rfl : k = l0.length := by omega
      go_wp2
      go_ret
      exact ⟨by rw [fi_none z124 p l0 HN.out]; rfl, HB.out⟩
set_option maxHeartbeats 1000000 in
set_option maxRecDepth 100000 in
theorem cont124.calls (p : S124 → Bool) (cp : Array Value) (A0 : Option Addr) (c0 : Nat) (l0 : List S124) (w : World) (hr0 : Kd.C k124 w A0 l0.length l0) (hc0 : l0.length ≤ c0)
    (hlen : (l0.length : Int) ≤ 140737488355328)
    (hf : ∀ (i : Int) (W : World), 0 ≤ i → i < l0.length → Below w.heap.size w W → Calls Try.prog 127 (#[.agg #[.int .i64 (rd_T124 l0 i).f0, .int .i64 (rd_T124 l0 i).f1.f0, .int .i64 (rd_T124 l0 i).f1.f1]] ++ cp) W fun e w' => e = .returned (.bool (p (rd_T124 l0 i))) ∧ Below W.heap.size W w') :
    Calls Try.prog 126 #[.slice A0 l0.length c0, .func (.func 127) #[] cp] w fun e w' => e = .returned (.bool (l0.any p)) ∧ Below w.heap.size w w' := by
  have HC := mkA (idx124.calls p cp A0 c0 l0 w hr0 hc0 hlen hf)
  clear hr0 hc0 hf
  go_enter Try.func126, Try.ntmps126
  go_wp2_with fail
  refine HC.out.mono ?_
  rintro e w' ⟨rfl, hb'⟩
  go_wp2
  go_ret
  exact ⟨by rw [← fi_any]; rfl, hb'⟩
/-- The function literal inside soap.all: it says whether an element does not pass. -/
theorem not124.calls (b : Bool) (x : S124) (sv : Value) (bx : Nat) (w : World) (hbx : w.cell? ⟨bx, 0, none⟩ = some (.func (.func 100) #[sv] #[]))
    (hf : ∀ W : World, Below w.heap.size w W → Calls Try.prog 100 #[sv, .agg #[.int .i64 x.f0, .int .i64 x.f1.f0, .int .i64 x.f1.f1]] W fun e w' => e = .returned (.bool b) ∧ Below W.heap.size W w') :
    Calls Try.prog 127 #[.agg #[.int .i64 x.f0, .int .i64 x.f1.f0, .int .i64 x.f1.f1], .pointer (some ⟨bx, 0, none⟩)] w fun e w' => e = .returned (.bool (!b)) ∧ Below w.heap.size w w' := by
  have hlt : bx < w.heap.size := World.block_lt_of_cell? w ⟨bx, 0, none⟩ hbx
  have HC := mkA hf
  clear hf
  go_enter Try.func127, Try.ntmps127
  go_wp2_with fail
  refine (HC.out _ (z10 (Below.refl _ _) _)).mono ?_
  rintro e w' ⟨rfl, hb⟩
  have HB := mkA (z16 (z10 (Below.refl _ _) _) hb)
  clear hb hbx hlt HC
  go_wp2
  go_ret
  exact ⟨rfl, HB.out⟩
set_option maxHeartbeats 1000000 in
set_option maxRecDepth 100000 in
/-- soap.all over sayings, at the method value of a slate. -/
theorem all124.calls (p : S124 → Bool) (sv : Value) (A0 : Option Addr) (c0 : Nat) (l0 : List S124) (w : World) (hr0 : Kd.C k124 w A0 l0.length l0) (hc0 : l0.length ≤ c0)
    (hlen : (l0.length : Int) ≤ 140737488355328)
    (hf : ∀ (x : S124) (W : World), Below w.heap.size w W → Calls Try.prog 100 #[sv, .agg #[.int .i64 x.f0, .int .i64 x.f1.f0, .int .i64 x.f1.f1]] W fun e w' => e = .returned (.bool (p x)) ∧ Below W.heap.size W w') :
    Calls Try.prog 102 #[.slice A0 l0.length c0, .func (.func 100) #[sv] #[]] w fun e w' => e = .returned (.bool (l0.all p)) ∧ Below w.heap.size w w' := by
  have hbw : Below w.heap.size w (w.alloc (.cells #[.func (.func 100) #[sv] #[]] 147)) := z10 (Below.refl _ _) _
  have HCC := mkA (cont124.calls (fun x => !p x) #[.pointer (some ⟨w.heap.size, 0, none⟩)] A0 c0 l0 (w.alloc (.cells #[.func (.func 100) #[sv] #[]] 147)) (Kd.C_below hr0 hbw) hc0 hlen (by
    intro i W h0 h1 hb
    have hcell : W.cell? ⟨w.heap.size, 0, none⟩ = some (.func (.func 100) #[sv] #[]) := (hb.cell (p := ⟨w.heap.size, 0, none⟩) (by simp)).trans (by simp)
    exact not124.calls (p (rd_T124 l0 i)) (rd_T124 l0 i) sv w.heap.size W hcell (fun W2 h2 => hf _ W2 (z16 (z16 hbw hb) h2))))
  clear hf hr0 hc0
  go_enter Try.func102, Try.ntmps102
  go_wp2_with fail
  refine HCC.out.mono ?_
  rintro e w' ⟨rfl, hb⟩
  have HB := mkA (z16 hbw hb)
  clear hb hbw HCC
  go_wp2
  go_ret
  exact ⟨by simp [List.all_eq_not_any_not], HB.out⟩
end Go.Proofs.Ytncaadckehikpaa.Q
namespace Go.Proofs.Ytncaadckehikpaa.Q
open Go.RowKit Go.Proofs.YtncaadckehikpaaW.PrintWords Go.Proofs.YtncaadckehikpaaW.PrintLast Go.Proofs.YtncaadckehikpaaW.PrintMore
attribute [local go_sem] z30 z29 max_two min_two
set_option linter.unusedVariables false
set_option linter.unusedSimpArgs false
/-- The least of a list's first n numbers, its first one among them. -/
def minTo (l : List Int) (n : Nat) : Int := (l.take n).foldl mn (rd l 0)
theorem take_snoc_int (l : List Int) (i : Int) (h0 : 0 ≤ i) (h : i < l.length) : l.take (i.toNat + 1) = l.take i.toNat ++ [rd l i] := by
  have hn : i.toNat < l.length := by omega
  rw [List.take_succ_eq_append_getElem hn]
  simp [rd, List.getD, hn]
theorem minTo_step (l : List Int) (i : Int) (h0 : 0 ≤ i) (h : i < l.length) : minTo l (i + 1).toNat = mn (minTo l i.toNat) (rd l i) := by
  rw [show (i + 1).toNat = i.toNat + 1 by omega]
  unfold minTo
  rw [take_snoc_int l i h0 h, List.foldl_append]
  rfl
theorem minTo_one (l : List Int) (h : 0 < l.length) : minTo l 1 = rd l 0 := by
  cases l with
  | nil => simp at h
  | cons a t => simp [minTo, rd, mn]
set_option maxHeartbeats 1000000 in
set_option maxRecDepth 100000 in
theorem slices_Min.calls (A0 : Option Addr) (c0 : Nat) (l0 : List Int) (w : World) (hr0 : Kd.C (Kd.int .i64) w A0 l0.length l0) (hc0 : l0.length ≤ c0) (hne : 0 < l0.length) (hlen : (l0.length : Int) ≤ 140737488355328) :
    Calls Try.prog 128 #[.slice A0 l0.length c0] w fun e w' => e = .returned (.int .i64 (minTo l0 l0.length)) ∧ Drawn0 w w' := by
  have HR0 := mkA hr0
  have HC0 := mkA hc0
  clear hr0 hc0
  have g1 : decide ((l0.length : Int) < 1) = false := decide_eq_false (by omega)
  have g2 : decide (l0.length < 1) = false := decide_eq_false (by omega)
  obtain ⟨ad0, e0, hx00⟩ := Kd.at_int HR0.out 0 (by omega) (by omega)
  cases e0
  have hx0 : w.cell? ad0 = some (.int .i64 (rd l0 0)) := hx00
  clear hx00
  go_enter Try.func128, Try.ntmps128
  go_wp2
  go_loop [3, 4] (fun m i => ∃ k : Int, 1 ≤ k ∧ k ≤ l0.length ∧ i = .int .i64 k ∧ m = .int .i64 (minTo l0 k.toNat)) (fun _ i => l0.length - (intOf i).toNat)
  case atStart => exact ⟨1, by omega, by omega, rfl, by rw [show (1 : Int).toNat = 1 from rfl, minTo_one l0 hne]⟩
  case round =>
    obtain ⟨k, hk1, hk2, rfl, rfl⟩ := hrel
    clear hx0
    by_cases hlt : k < l0.length
    · have c3b0 : decide (k < (l0.length : Int)) = true := decide_eq_true hlt
      obtain ⟨ad1, e1, hx1⟩ := Kd.at_int HR0.out k (by omega) hlt
      cases e1
      have HS := Lib.hid (minTo_step l0 k (by omega) hlt)
      have p1 : 0 ≤ k := by omega
      go_wp2
      go_round
      case rel => exact ⟨k + 1, by omega, by omega, by go_num, by rw [HS.out]; rfl⟩
      case measure => simp [intOf]; omega
    · have c3b0 : decide (k < (l0.length : Int)) = false := decide_eq_false hlt
      obtain rfl : k = l0.length := by omega
      go_wp2
      go_ret
      exact ⟨rfl, Drawn0.refl _⟩
/-- soap.minimum. -/
def soap_minimum.f (l0 : List Int) : Option Int := if 0 < l0.length ∧ (l0.length : Int) ≤ 140737488355328 then some (minTo l0 l0.length) else none
set_option maxHeartbeats 1000000 in
set_option maxRecDepth 100000 in
theorem soap_minimum.calls (A0 : Option Addr) (c0 : Nat) (l0 : List Int) (r : Int) (w : World) (hr0 : Kd.C (Kd.int .i64) w A0 l0.length l0) (hc0 : l0.length ≤ c0) (h : soap_minimum.f l0 = some r) :
    Calls Try.prog 103 #[.slice A0 l0.length c0] w fun e w' => e = .returned (.int .i64 r) ∧ Drawn0 w w' := by
  unfold soap_minimum.f at h
  split at h
  case isFalse => cases h
  case isTrue hh =>
    obtain ⟨h1, h2⟩ := hh
    obtain rfl := Option.some.inj h
    have HM := Lib.hid (slices_Min.calls A0 c0 l0 w hr0 hc0 h1 h2)
    clear hr0 hc0 h1 h2 h
    go_enter Try.func103, Try.ntmps103
    go_wp2_with fail
    refine HM.out.mono ?_
    rintro e w' ⟨rfl, hd⟩
    go_wp2
    go_ret
    exact ⟨rfl, hd⟩
end Go.Proofs.Ytncaadckehikpaa.Q
namespace Go.Proofs.Ytncaadckehikpaa.Q
open Go.RowKit Go.Proofs.YtncaadckehikpaaW.PrintWords Go.Proofs.YtncaadckehikpaaW.PrintLast Go.Proofs.YtncaadckehikpaaW.PrintMore
set_option linter.unusedVariables false
set_option linter.unusedSimpArgs false
/-- A block of whole numbers reads as their list. -/
theorem C_ints {w : World} {g : Nat} {e : TypeId} {fr : Nat × Nat} {k : IntKind} (xs : List Int) (hm : xs.length ≤ 9223372036854775807) (h : w.heap[g]? = some (.cells (xs.map (Value.int k)).toArray e fr)) :
    Kd.C (Kd.int k) w (some ⟨g, 0, none⟩) xs.length xs := by
  refine Kd.C_of_reads (enc := Value.int k) (d := (0 : Int)) (h1 := fun _ => rfl) ⟨rfl, hm, fun _ => ⟨_, rfl, fun j hj => ?_⟩⟩
  rw [z43, cell_of_row w g j _ e fr h]
  simp [List.getD, hj]
theorem z19 (w : World) (o : Obj) : (w.alloc o).heap[w.heap.size]? = some o := by
  show (w.heap.push o)[w.heap.size]? = some o
  simp
theorem blk_below {w W : World} {g : Nat} {o : Obj} (h : w.heap[g]? = some o) (hb : Below w.heap.size w W) : W.heap[g]? = some o := by
  have hl : g < w.heap.size := by
    rcases Nat.lt_or_ge g w.heap.size with hl | hl
    · exact hl
    · rw [Array.getElem?_eq_none hl] at h; cases h
  rw [hb.block g hl]; exact h
theorem z22 {w : World} {g : Nat} {o : Obj} (h : w.heap[g]? = some o) : g < w.heap.size := by
  rcases Nat.lt_or_ge g w.heap.size with hl | hl
  · exact hl
  · rw [Array.getElem?_eq_none hl] at h; cases h
/-- .. and the first of them as theirs. -/
theorem C_ints_take {w : World} {g : Nat} {e : TypeId} {fr : Nat × Nat} {k : IntKind} (xs : List Int) (m : Nat) (hx : m ≤ xs.length) (hm : xs.length ≤ 9223372036854775807) (h : w.heap[g]? = some (.cells (xs.map (Value.int k)).toArray e fr)) :
    Kd.C (Kd.int k) w (some ⟨g, 0, none⟩) m (xs.take m) := by
  refine Kd.C_of_reads (enc := Value.int k) (d := (0 : Int)) (h1 := fun _ => rfl) ⟨by simp; omega, by omega, fun _ => ⟨_, rfl, fun j hj => ?_⟩⟩
  rw [z43, cell_of_row w g j _ e fr h]
  have hj2 : j < xs.length := by omega
  simp [List.getD, hj2, hj]
theorem six {v : List Int} (h : v.length = 6) : v = [rd v 0, rd v 1, rd v 2, rd v 3, rd v 4, rd v 5] := by
  match v, h with
  | [a, b, c, d, e, f], _ => rfl
theorem six_map {v : List Int} (h : v.length = 6) : (v.map (Value.int .i64)).toArray = #[.int .i64 (rd v 0), .int .i64 (rd v 1), .int .i64 (rd v 2), .int .i64 (rd v 3), .int .i64 (rd v 4), .int .i64 (rd v 5)] := by
  match v, h with
  | [a, b, c, d, e, f], _ => rfl
/-- A store of what a cell holds. -/
theorem z26 {w : World} {a : Addr} {v : Value} (h : w.cell? a = some v) : w.setCell a v = w := by
  have hh : (w.setCell a v).heap = w.heap := by
    apply Array.ext_getElem?
    intro i
    simp only [World.setCell, Array.getElem?_modify]
    by_cases hi : a.block = i
    · subst hi
      rw [if_pos rfl]
      unfold World.cell? at h
      cases hb : w.heap[a.block]? with
      | none => rfl
      | some o =>
        rw [hb] at h
        cases o with
        | cells c e fr =>
          simp only at h
          split at h
          · cases h
          · rename_i hs
            simp only [Option.map_some]
            rw [if_neg hs]
            congr 2
            apply Array.ext_getElem?
            intro j
            by_cases hj : a.off = j
            · subst hj
              have hl : a.off < c.size := by
                rcases Nat.lt_or_ge a.off c.size with hl | hl
                · exact hl
                · rw [Array.getElem?_eq_none hl] at h; cases h
              rw [Array.getElem?_setIfInBounds_self_of_lt hl, h]
            · rw [Array.getElem?_setIfInBounds_ne hj]
        | _ => simp at h
    · rw [if_neg hi]
  show (⟨(w.setCell a v).heap, w.tape, w.drawn, w.os, w.output⟩ : World) = w
  rw [hh]
end Go.Proofs.Ytncaadckehikpaa.Q
namespace Go.Proofs.Ytncaadckehikpaa.Q
open Go.RowKit Go.Proofs.YtncaadckehikpaaW.PrintWords Go.Proofs.YtncaadckehikpaaW.PrintLast Go.Proofs.YtncaadckehikpaaW.PrintMore
set_option linter.unusedVariables false
set_option linter.unusedSimpArgs false
def womanB (n a : Int) : Bool := decide (0 ≤ a) && decide (a ≤ n - 1)
def pairB (n a b : Int) : Bool := womanB n a && womanB n b && a != b
def entryB (n : Int) (e : S122) : Bool := pairB n e.f0 e.f1 && (decide (0 ≤ e.f2.f0) && decide (e.f2.f0 ≤ e.f2.f1) && decide (e.f2.f1 ≤ 40))
def sayingB (n : Int) (x : S124) : Bool := womanB n x.f0 && (decide (-240 ≤ x.f1.f0) && decide (x.f1.f0 ≤ x.f1.f1) && decide (x.f1.f1 ≤ 240))
def payB (n : Int) (p : S76) : Bool := pairB n p.f0 p.f1 && (decide (1 ≤ p.f2) && decide (p.f2 ≤ 240))
def sizeS (e : S122) : Int := e.f2.f1 - e.f2.f0 + 1
/-- The sizes of all Ounces, multiplied (more than 2001 are not counted). -/
def manyS (l : List S122) : Int := l.foldl (fun m e => mn (m * sizeS e) 2001) 1
def checkS (n : Int) (l1 : List S122) (l2 : List S124) : Int :=
  if n > 6 ∨ l1.length > 6 ∨ l2.length > 5 then 3 else if n < 0 ∨ l1.all (entryB n) = false ∨ l2.all (sayingB n) = false then 1 else if manyS l1 > 2000 then 3 else 0
theorem woman_f (n a : Int) (l1 : List S122) (l2 : List S124) (h0 : 0 ≤ n) (h6 : n ≤ 6) : soap_Slate_woman.f n l1 l2 a = some (womanB n a) := by
  have hw : wrap64 (n - 1) = n - 1 := by unfold wrap64; omega
  simp only [soap_Slate_woman.f, soap_within.f, hw, womanB]
  by_cases h : 0 ≤ a <;> simp [h]
theorem pair_f (n a b : Int) (l1 : List S122) (l2 : List S124) (h0 : 0 ≤ n) (h6 : n ≤ 6) : soap_Slate_pair.f n l1 l2 a b = some (pairB n a b) := by
  simp only [soap_Slate_pair.f, woman_f n _ l1 l2 h0 h6, Option.bind_some, pairB]
  cases womanB n a <;> cases womanB n b <;> simp
theorem entry_f (n : Int) (e : S122) (l1 : List S122) (l2 : List S124) (h0 : 0 ≤ n) (h6 : n ≤ 6) : soap_Slate_entry.f n l1 l2 e.f0 e.f1 e.f2.f0 e.f2.f1 = some (entryB n e) := by
  simp only [soap_Slate_entry.f, pair_f n _ _ l1 l2 h0 h6, Option.bind_some, entryB, soap_Range_between.f]
  cases pairB n e.f0 e.f1 <;> simp
  by_cases h : 0 ≤ e.f2.f0 <;> by_cases h' : e.f2.f0 ≤ e.f2.f1 <;> simp [h, h']
theorem saying_f (n : Int) (x : S124) (l1 : List S122) (l2 : List S124) (h0 : 0 ≤ n) (h6 : n ≤ 6) : soap_Slate_saying.f n l1 l2 x.f0 x.f1.f0 x.f1.f1 = some (sayingB n x) := by
  simp only [soap_Slate_saying.f, woman_f n _ l1 l2 h0 h6, Option.bind_some, sayingB, soap_Range_between.f]
  cases womanB n x.f0 <;> simp
  by_cases h : -240 ≤ x.f1.f0 <;> by_cases h' : x.f1.f0 ≤ x.f1.f1 <;> simp [h, h']
theorem mn_le (a b : Int) : mn a b ≤ b := by unfold mn; split <;> omega
theorem manyS_bounds (l : List S122) (h : ∀ e ∈ l, 1 ≤ sizeS e) : ∀ m : Int, 1 ≤ m → m ≤ 2001 → 1 ≤ l.foldl (fun m e => mn (m * sizeS e) 2001) m ∧ l.foldl (fun m e => mn (m * sizeS e) 2001) m ≤ 2001 := by
  induction l with
  | nil => intro m h1 h2; exact ⟨h1, h2⟩
  | cons e t ih =>
    intro m h1 h2
    have hs := h e (by simp)
    have hp : 1 ≤ m * sizeS e := by
      have := Int.mul_le_mul h1 hs (by omega) (by omega)
      omega
    have hb : 1 ≤ mn (m * sizeS e) 2001 := by unfold mn; split <;> omega
    exact ih (fun e he => h e (by simp [he])) _ hb (mn_le _ _)
theorem manyS_snoc (l : List S122) (i : Int) (h0 : 0 ≤ i) (h : i < l.length) : manyS (l.take (i + 1).toNat) = mn (manyS (l.take i.toNat) * sizeS (rd_T122 l i)) 2001 := by
  have hn : i.toNat < l.length := by omega
  rw [show (i + 1).toNat = i.toNat + 1 by omega]
  unfold manyS
  rw [List.take_succ_eq_append_getElem hn, List.foldl_append]
  simp [rd_T122, List.getD, hn]
theorem entryB_size (n : Int) (e : S122) (h : entryB n e = true) : 0 ≤ e.f2.f0 ∧ e.f2.f0 ≤ e.f2.f1 ∧ e.f2.f1 ≤ 40 ∧ 1 ≤ sizeS e ∧ sizeS e ≤ 41 := by
  simp only [entryB, Bool.and_eq_true, decide_eq_true_eq] at h
  unfold sizeS
  omega
theorem rd_T122_mem (l : List S122) (i : Int) (h0 : 0 ≤ i) (h : i < l.length) : rd_T122 l i ∈ l := by
  have hn : i.toNat < l.length := by omega
  simp [rd_T122, List.getD, hn]
section
variable (a0 : Int) (A1 : Option Addr) (c1 : Nat) (l1 : List S122) (A2 : Option Addr) (c2 : Nat) (l2 : List S124) (w : World)
set_option maxHeartbeats 2000000 in
set_option maxRecDepth 100000 in
theorem check_A (h : a0 > 6) :
    Calls Try.prog 65 #[.agg #[.int .i64 a0, .slice A1 l1.length c1, .slice A2 l2.length c2]] w fun e w' => e = .returned (.int .i64 3) ∧ Below w.heap.size w w' := by
  have hu35 := Try.underlying35
  have g1 : decide (6 < a0) = true := decide_eq_true h
  clear h
  go_enter Try.func65, Try.ntmps65
  go_wp2
  go_quiet (fail)
  go_wp2
  go_ret
  exact ⟨rfl, by repeat (first | exact Below.refl _ _ | apply z10 | apply z11)⟩
set_option maxHeartbeats 2000000 in
set_option maxRecDepth 100000 in
theorem check_B (h : ¬ a0 > 6) (h1 : l1.length > 6) :
    Calls Try.prog 65 #[.agg #[.int .i64 a0, .slice A1 l1.length c1, .slice A2 l2.length c2]] w fun e w' => e = .returned (.int .i64 3) ∧ Below w.heap.size w w' := by
  have hu35 := Try.underlying35
  have g1 : decide (6 < a0) = false := decide_eq_false h
  have g2 : decide (6 < (l1.length : Int)) = true := decide_eq_true (by omega)
  have g3 : decide (6 < l1.length) = true := decide_eq_true (by omega)
  clear h h1
  go_enter Try.func65, Try.ntmps65
  go_wp2
  go_quiet (fail)
  go_wp2
  go_ret
  exact ⟨rfl, by repeat (first | exact Below.refl _ _ | apply z10 | apply z11)⟩
set_option maxHeartbeats 2000000 in
set_option maxRecDepth 100000 in
theorem check_C (h : ¬ a0 > 6) (h1 : ¬ l1.length > 6) (h2 : l2.length > 5) :
    Calls Try.prog 65 #[.agg #[.int .i64 a0, .slice A1 l1.length c1, .slice A2 l2.length c2]] w fun e w' => e = .returned (.int .i64 3) ∧ Below w.heap.size w w' := by
  have hu35 := Try.underlying35
  have g1 : decide (6 < a0) = false := decide_eq_false h
  have g2 : decide (6 < (l1.length : Int)) = false := decide_eq_false (by omega)
  have g3 : decide (6 < l1.length) = false := decide_eq_false (by omega)
  have g4 : decide (5 < (l2.length : Int)) = true := decide_eq_true (by omega)
  have g5 : decide (5 < l2.length) = true := decide_eq_true (by omega)
  clear h h1 h2
  go_enter Try.func65, Try.ntmps65
  go_wp2
  go_quiet (fail)
  go_wp2
  go_ret
  exact ⟨rfl, by repeat (first | exact Below.refl _ _ | apply z10 | apply z11)⟩
set_option maxHeartbeats 2000000 in
set_option maxRecDepth 100000 in
theorem check_D (h : a0 < 0) (h1 : ¬ l1.length > 6) (h2 : ¬ l2.length > 5) :
    Calls Try.prog 65 #[.agg #[.int .i64 a0, .slice A1 l1.length c1, .slice A2 l2.length c2]] w fun e w' => e = .returned (.int .i64 1) ∧ Below w.heap.size w w' := by
  have hu35 := Try.underlying35
  have g1 : decide (6 < a0) = false := decide_eq_false (by omega)
  have g2 : decide (6 < (l1.length : Int)) = false := decide_eq_false (by omega)
  have g3 : decide (6 < l1.length) = false := decide_eq_false (by omega)
  have g4 : decide (5 < (l2.length : Int)) = false := decide_eq_false (by omega)
  have g5 : decide (5 < l2.length) = false := decide_eq_false (by omega)
  have g6 : decide (a0 < 0) = true := decide_eq_true h
  clear h h1 h2
  go_enter Try.func65, Try.ntmps65
  go_wp2
  go_quiet (fail)
  go_wp2
  go_ret
  exact ⟨rfl, by repeat (first | exact Below.refl _ _ | apply z10 | apply z11)⟩
set_option maxHeartbeats 2000000 in
set_option maxRecDepth 100000 in
theorem check_E (hr1 : Kd.C k122 w A1 l1.length l1) (hc1 : l1.length ≤ c1) (hr2 : Kd.C k124 w A2 l2.length l2) (hc2 : l2.length ≤ c2) (h0 : 0 ≤ a0) (h : a0 ≤ 6) (h1 : ¬ l1.length > 6) (h2 : ¬ l2.length > 5) :
    Calls Try.prog 65 #[.agg #[.int .i64 a0, .slice A1 l1.length c1, .slice A2 l2.length c2]] w fun e w' => e = .returned (.int .i64 (checkS a0 l1 l2)) ∧ Below w.heap.size w w' := by
  have hu35 := Try.underlying35
  have hu122 := Try.underlying122
  have g1 : decide (6 < a0) = false := decide_eq_false (by omega)
  have g2 : decide (6 < (l1.length : Int)) = false := decide_eq_false (by omega)
  have g3 : decide (6 < l1.length) = false := decide_eq_false (by omega)
  have g4 : decide (5 < (l2.length : Int)) = false := decide_eq_false (by omega)
  have g5 : decide (5 < l2.length) = false := decide_eq_false (by omega)
  have g6 : decide (a0 < 0) = false := decide_eq_false (by omega)
  have HR1 := mkA hr1
  have HE := mkA (fun (W : World) (hb : Below w.heap.size w W) => all122.calls (entryB a0) (.agg #[.int .i64 a0, .slice A1 l1.length c1, .slice A2 l2.length c2]) A1 c1 l1 W (Kd.C_below hr1 hb) hc1 (by omega)
    (fun x W2 hb2 => soap_Slate_entry.calls a0 A1 c1 l1 A2 c2 l2 x.f0 x.f1 x.f2.f0 x.f2.f1 _ W2 (Kd.C_below (Kd.C_below hr1 hb) hb2) hc1 (Kd.C_below (Kd.C_below hr2 hb) hb2) hc2 (entry_f a0 x l1 l2 h0 h)))
  have HS := mkA (fun (W : World) (hb : Below w.heap.size w W) => all124.calls (sayingB a0) (.agg #[.int .i64 a0, .slice A1 l1.length c1, .slice A2 l2.length c2]) A2 c2 l2 W (Kd.C_below hr2 hb) hc2 (by omega)
    (fun x W2 hb2 => soap_Slate_saying.calls a0 A1 c1 l1 A2 c2 l2 x.f0 x.f1.f0 x.f1.f1 _ W2 (Kd.C_below (Kd.C_below hr1 hb) hb2) hc1 (Kd.C_below (Kd.C_below hr2 hb) hb2) hc2 (saying_f a0 x l1 l2 h0 h)))
  have HCH := mkA (show checkS a0 l1 l2 = if l1.all (entryB a0) = false ∨ l2.all (sayingB a0) = false then 1 else if manyS l1 > 2000 then 3 else 0 by
    unfold checkS
    rw [if_neg (by omega)]
    congr 1
    exact propext ⟨fun z => z.resolve_left (by omega), Or.inr⟩)
  clear hr1 hr2
  go_enter Try.func65, Try.ntmps65
  go_wp2
  go_quiet (fail)
  go_wp2_with fail
  refine (HE.out _ (by repeat (first | exact Below.refl _ _ | apply z10 | apply z11))).mono ?_
  rintro e w' ⟨rfl, hb⟩
  have hw0 : Below w.heap.size w ((w.alloc (.cells #[.int .i64 a0, .slice A1 l1.length c1, .slice A2 l2.length c2] 35)).drewN nq) := z11 (z10 (Below.refl _ _) _) _
  have HB := mkA (z16 hw0 hb)
  have HK := mkA (blk_below (show ((w.alloc (.cells #[.int .i64 a0, .slice A1 l1.length c1, .slice A2 l2.length c2] 35)).drewN nq).heap[w.heap.size]? = some (.cells #[.int .i64 a0, .slice A1 l1.length c1, .slice A2 l2.length c2] 35 (0, 0)) from z19 w _) hb)
  clear hb hw0
  have k1 : w'.cell? ⟨w.heap.size, 1, none⟩ = some (.slice A1 l1.length c1) := (z12 HK.out 1).trans rfl
  have k2 : w'.cell? ⟨w.heap.size, 2, none⟩ = some (.slice A2 l2.length c2) := (z12 HK.out 2).trans rfl
  cases he : l1.all (entryB a0) with
  | false =>
    rw [he] at HCH
    have HC2 := mkA (show checkS a0 l1 l2 = 1 by rw [HCH.out, if_pos (Or.inl rfl)])
    clear he HCH HE HS
    go_wp2
    go_ret
    exact ⟨by rw [HC2.out]; rfl, HB.out⟩
  | true =>
    have HE2 := mkA he
    rw [he] at HCH
    clear he HE
    go_wp2_with fail
    refine (HS.out _ HB.out).mono ?_
    rintro e w2 ⟨rfl, hb⟩
    have HB2 := mkA (z16 HB.out hb)
    have HK2 := mkA (blk_below HK.out hb)
    clear hb HB HK k1 k2 HS
    have k1 : w2.cell? ⟨w.heap.size, 1, none⟩ = some (.slice A1 l1.length c1) := (z12 HK2.out 1).trans rfl
    cases he : l2.all (sayingB a0) with
    | false =>
      rw [he] at HCH
      have HC2 := mkA (show checkS a0 l1 l2 = 1 by rw [HCH.out, if_pos (Or.inr rfl)])
      clear he HCH
      go_wp2
      go_ret
      exact ⟨by rw [HC2.out]; rfl, HB2.out⟩
    | true =>
      rw [he] at HCH
      have HC2 := mkA (show checkS a0 l1 l2 = if manyS l1 > 2000 then 3 else 0 by rw [HCH.out, if_neg (by simp)])
      clear he HCH
      go_wp2
      clear k1 HK2
      have hall : ∀ e ∈ l1, entryB a0 e = true := fun e hm => List.all_eq_true.1 HE2.out e hm
      have HALL := mkA hall
      clear hall HE2
      have HB := HB2
      clear HB2
      go_loopw [5, 49] (fun m i wr => ∃ k : Int, 0 ≤ k ∧ k ≤ l1.length ∧ i = .int .i64 k ∧ m = .int .i64 (manyS (l1.take k.toNat)) ∧ Below w.heap.size w wr) (fun _ i _ => l1.length - (intOf i).toNat)
      case atStart => exact ⟨0, by omega, by omega, rfl, rfl, HB.out⟩
      case round =>
        clear HB
        obtain ⟨k, hk1, hk2, rfl, rfl, hb⟩ := hrel
        have HB := mkA hb
        clear hb
        by_cases hlt : k < l1.length
        · have c3b0 : decide (k < (l1.length : Int)) = true := decide_eq_true hlt
          obtain ⟨ad1, e1, hx1, hx2, hx3, hx4⟩ := at_T122 (Kd.C_below HR1.out HB.out) k (by omega) hlt
          cases e1
          have hes := entryB_size a0 _ (HALL.out _ (rd_T122_mem l1 k hk1 hlt))
          obtain ⟨z1, z2, z3, z4, z5⟩ := hes
          have hmb := manyS_bounds (l1.take k.toNat) (fun e he => (entryB_size a0 e (HALL.out e (List.mem_of_mem_take he))).2.2.2.1) 1 (by omega) (by omega)
          have HS := mkA (manyS_snoc l1 k hk1 hlt)
          have HSZ := mkA (show soap_Range_size.f (rd_T122 l1 k).f2.f0 (rd_T122 l1 k).f2.f1 = some (sizeS (rd_T122 l1 k)) by
            unfold soap_Range_size.f sizeS wrap64; congr 1; omega)
          have hp1 : 1 ≤ manyS (l1.take k.toNat) * sizeS (rd_T122 l1 k) := by
            have := Int.mul_le_mul hmb.1 z4 (by omega) (by omega)
            simpa [manyS] using this
          have hp2 : manyS (l1.take k.toNat) * sizeS (rd_T122 l1 k) ≤ 82041 := Int.mul_le_mul hmb.2 z5 (by omega) (by omega)
          clear z1 z2 z3 z4 z5 hmb
          go_wp2_with fail
          refine (soap_Range_size.calls _ _ _ _ HSZ.out).mono ?_
          rintro e w3 ⟨rfl, hb⟩
          have HB3 := mkA (z16 (z10 HB.out _) hb)
          clear hb hx1 hx2 hx3 hx4 HSZ
          go_wp2_with fail
          have HM := mkA (soap_minimum.calls (some ⟨w3.heap.size, 0, none⟩) 2 [manyS (l1.take k.toNat) * sizeS (rd_T122 l1 k), 2001] (mn (manyS (l1.take k.toNat) * sizeS (rd_T122 l1 k)) 2001) (w3.alloc (.cells #[.int .i64 (manyS (l1.take k.toNat) * sizeS (rd_T122 l1 k)), .int .i64 2001] 3))
            (C_ints [manyS (l1.take k.toNat) * sizeS (rd_T122 l1 k), 2001] (by simp) (z19 w3 _)) (by simp) (by
              unfold soap_minimum.f; rw [if_pos (by simp)]; simp [minTo, rd, mn]))
          refine HM.out.mono ?_
          rintro e w4 ⟨rfl, ⟨m, rfl⟩⟩
          clear HM
          go_wp2
          go_roundw
          case rel => exact ⟨k + 1, by omega, by omega, by go_num, by rw [HS.out], z11 (z10 HB3.out _) _⟩
          case measure => simp [intOf]; omega
        · have c3b0 : decide (k < (l1.length : Int)) = false := decide_eq_false hlt
          obtain rfl : k = l1.length := by omega
          by_cases hm : manyS l1 > 2000
          · have HC3 := mkA (show checkS a0 l1 l2 = 3 by rw [HC2.out, if_pos hm])
            have c4 : decide (2000 < manyS l1) = true := decide_eq_true hm
            clear hm
            go_wp2
            go_ret
            exact ⟨by rw [HC3.out]; rfl, HB.out⟩
          · have HC3 := mkA (show checkS a0 l1 l2 = 0 by rw [HC2.out, if_neg hm])
            have c4 : decide (2000 < manyS l1) = false := decide_eq_false hm
            clear hm
            go_wp2
            go_ret
            exact ⟨by rw [HC3.out]; rfl, HB.out⟩
/-- soap.CheckSlate. -/
def soap_CheckSlate.f (a0_0 : Int) (l0_1 : List (S122)) (l0_2 : List (S124)) : Option Int := some (checkS a0_0 l0_1 l0_2)
end
theorem soap_CheckSlate.calls (a0_0 : Int) (A0_1 : Option Addr) (c0_1 : Nat) (l0_1 : List (S122)) (A0_2 : Option Addr) (c0_2 : Nat) (l0_2 : List (S124)) (r : Int) (w : World) (hr0_1 : Kd.C k122 w A0_1 l0_1.length l0_1) (hc0_1 : l0_1.length ≤ c0_1) (hr0_2 : Kd.C k124 w A0_2 l0_2.length l0_2) (hc0_2 : l0_2.length ≤ c0_2) (h : soap_CheckSlate.f a0_0 l0_1 l0_2 = some r) :
    Calls Try.prog 65 #[.agg #[.int .i64 a0_0, .slice A0_1 l0_1.length c0_1, .slice A0_2 l0_2.length c0_2]] w fun e w' => e = .returned (.int .i64 r) ∧ Below w.heap.size w w' := by
  obtain rfl := Option.some.inj h
  by_cases h6 : a0_0 > 6
  · rw [show checkS a0_0 l0_1 l0_2 = 3 by unfold checkS; rw [if_pos (Or.inl h6)]]
    exact check_A a0_0 A0_1 c0_1 l0_1 A0_2 c0_2 l0_2 w h6
  by_cases h1 : l0_1.length > 6
  · rw [show checkS a0_0 l0_1 l0_2 = 3 by unfold checkS; rw [if_pos (Or.inr (Or.inl h1))]]
    exact check_B a0_0 A0_1 c0_1 l0_1 A0_2 c0_2 l0_2 w h6 h1
  by_cases h2 : l0_2.length > 5
  · rw [show checkS a0_0 l0_1 l0_2 = 3 by unfold checkS; rw [if_pos (Or.inr (Or.inr h2))]]
    exact check_C a0_0 A0_1 c0_1 l0_1 A0_2 c0_2 l0_2 w h6 h1 h2
  by_cases h0 : a0_0 < 0
  · rw [show checkS a0_0 l0_1 l0_2 = 1 by unfold checkS; rw [if_neg (by omega), if_pos (Or.inl h0)]]
    exact check_D a0_0 A0_1 c0_1 l0_1 A0_2 c0_2 l0_2 w h0 h1 h2
  exact check_E a0_0 A0_1 c0_1 l0_1 A0_2 c0_2 l0_2 w hr0_1 hc0_1 hr0_2 hc0_2 (by omega) (by omega) h1 h2
end Go.Proofs.Ytncaadckehikpaa.Q
