/- A part of the proof: contracts of functions and plain facts (HAll, HMin, HBase). No condition. -/
import Derived.Lib.Hide
import Derived.Test.YtncaadckehikpaaM4
import Derived.Test.YtncaadckehikpaaM3
namespace Go.Proofs.Ytncaadckehikpaa.Q
open Go.RowKit Go.Proofs.YtncaadckehikpaaW.PrintWords Go.Proofs.YtncaadckehikpaaW.PrintLast Go.Proofs.YtncaadckehikpaaW.PrintMore
set_option linter.unusedVariables false
set_option linter.unusedSimpArgs false
/-- The first place at which a test is met, or -1. -/
def fi {α : Type} (p : α → Bool) (xs : List α) : Int := match xs.findIdx? p with | some i => (i : Int) | none => -1
theorem fi_none {α : Type} (z : α) (p : α → Bool) (xs : List α) (h : ∀ j : Int, 0 ≤ j → j < xs.length → p (xs.getD j.toNat z) = false) : fi p xs = -1 := by
  have : xs.findIdx? p = none := by
    rw [List.findIdx?_eq_none_iff]
    intro x hx
    obtain ⟨n, hn, rfl⟩ := List.getElem_of_mem hx
    have := h n (by omega) (by omega)
    simpa [List.getD, hn] using this
  unfold fi
  rw [this]
theorem fi_some {α : Type} (z : α) (p : α → Bool) (xs : List α) (k : Int) (h0 : 0 ≤ k) (h1 : k < xs.length) (h : ∀ j : Int, 0 ≤ j → j < k → p (xs.getD j.toNat z) = false) (hp : p (xs.getD k.toNat z) = true) : fi p xs = k := by
  have hk : k.toNat < xs.length := by omega
  have : xs.findIdx? p = some k.toNat := by
    rw [List.findIdx?_eq_some_iff_getElem]
    refine ⟨hk, by simpa [List.getD, hk] using hp, fun j hj => ?_⟩
    have h2 := h j (by omega) (by omega)
    have hj' : j < xs.length := by omega
    simpa [List.getD, hj'] using h2
  unfold fi
  rw [this]
  show (k.toNat : Int) = k
  omega
theorem fi_any {α : Type} (p : α → Bool) (xs : List α) : decide (fi p xs ≥ 0) = xs.any p := by
  unfold fi
  cases h : xs.findIdx? p with
  | none =>
    rw [List.findIdx?_eq_none_iff] at h
    simp only [ge_iff_le]
    symm
    rw [show decide ((0 : Int) ≤ -1) = false from rfl, List.any_eq_false]
    intro x hx
    simp [h x hx]
  | some i =>
    have := (List.findIdx?_eq_some_iff_getElem.1 h)
    obtain ⟨hi, hp, _⟩ := this
    have : decide ((i : Int) ≥ 0) = true := by simp
    rw [this]
    symm
    rw [List.any_eq_true]
    exact ⟨_, List.getElem_mem hi, hp⟩
set_option maxHeartbeats 1000000 in
set_option maxRecDepth 100000 in
theorem idx122.calls (p : S122 → Bool) (cp : Array Value) (A0 : Option Addr) (c0 : Nat) (l0 : List S122) (w : World) (hr0 : Kd.C k122 w A0 l0.length l0) (hc0 : l0.length ≤ c0)
    (hlen : (l0.length : Int) ≤ 140737488355328)
    (hf : ∀ (i : Int) (W : World), 0 ≤ i → i < l0.length → Below w.heap.size w W → Calls Try.prog 125 (#[.agg #[.int .i64 (rd_T122 l0 i).f0, .int .i64 (rd_T122 l0 i).f1, .int .i64 (rd_T122 l0 i).f2.f0, .int .i64 (rd_T122 l0 i).f2.f1]] ++ cp) W fun e w' => e = .returned (.bool (p (rd_T122 l0 i))) ∧ Below W.heap.size W w') :
    Calls Try.prog 133 #[.slice A0 l0.length c0, .func (.func 125) #[] cp] w fun e w' => e = .returned (.int .i64 (fi p l0)) ∧ Below w.heap.size w w' := by
  have HR0 := mkA hr0
  have HC0 := mkA hc0
  have HF := mkA hf
  clear hr0 hc0 hf
  go_enter Try.func133, Try.ntmps133
  go_wp2
  go_loopw [8] (fun i wr => ∃ k : Int, 0 ≤ k ∧ k ≤ l0.length ∧ i = .int .i64 k ∧ Aside0 (∀ j : Int, 0 ≤ j → j < k → p (rd_T122 l0 j) = false) ∧ Below w.heap.size w wr) (fun i _ => l0.length - (intOf i).toNat)
  case atStart => exact ⟨0, by omega, by omega, rfl, ⟨fun j h0 h1 => by omega⟩, Below.refl _ _⟩
  case round =>
    obtain ⟨k, hk1, hk2, rfl, HN, hb⟩ := hrel
    have HB := mkA hb
    clear hb
    by_cases hlt : k < l0.length
    · have c3b0 : decide (k < (l0.length : Int)) = true := decide_eq_true hlt
      obtain ⟨ad1, e1, hx1, hx2, hx3, hx4⟩ := at_T122 (Kd.C_below HR0.out HB.out) k (by omega) hlt
      cases e1
      have HC := mkA (HF.out k wr hk1 hlt HB.out)
      have p1 : 0 ≤ k := by omega
      go_wp2_with fail
      refine HC.out.mono ?_
      rintro e w' ⟨rfl, hb'⟩
      have HB2 := mkA (HB.out.trans (hb'.mono HB.out.size))
      clear hx1 hx2 hx3 hx4 hb'
      cases hp : p (rd_T122 l0 k) with
      | true =>
        have HP := mkA hp
        clear hp
        go_wp2
        go_ret
        exact ⟨by rw [fi_some z122 p l0 k hk1 hlt HN.out HP.out]; rfl, HB2.out⟩
      | false =>
        have HP := mkA hp
        clear hp
        go_wp2
        go_roundw
        case rel =>
          refine ⟨k + 1, by omega, by omega, by go_num, ⟨fun j h0 h1 => ?_⟩, HB2.out⟩
          by_cases hj : j < k
          · exact HN.out j h0 hj
          · obtain rfl : j = k := by omega
            exact HP.out
        case measure => simp [intOf]; omega
    · have c3b0 : decide (k < (l0.length : Int)) = false := decide_eq_false hlt
      obtain rfl : k = l0.length := by omega
      go_wp2
      go_ret
      exact ⟨by rw [fi_none z122 p l0 HN.out]; rfl, HB.out⟩
set_option maxHeartbeats 1000000 in
set_option maxRecDepth 100000 in
theorem cont122.calls (p : S122 → Bool) (cp : Array Value) (A0 : Option Addr) (c0 : Nat) (l0 : List S122) (w : World) (hr0 : Kd.C k122 w A0 l0.length l0) (hc0 : l0.length ≤ c0)
    (hlen : (l0.length : Int) ≤ 140737488355328)
    (hf : ∀ (i : Int) (W : World), 0 ≤ i → i < l0.length → Below w.heap.size w W → Calls Try.prog 125 (#[.agg #[.int .i64 (rd_T122 l0 i).f0, .int .i64 (rd_T122 l0 i).f1, .int .i64 (rd_T122 l0 i).f2.f0, .int .i64 (rd_T122 l0 i).f2.f1]] ++ cp) W fun e w' => e = .returned (.bool (p (rd_T122 l0 i))) ∧ Below W.heap.size W w') :
    Calls Try.prog 124 #[.slice A0 l0.length c0, .func (.func 125) #[] cp] w fun e w' => e = .returned (.bool (l0.any p)) ∧ Below w.heap.size w w' := by
  have HC := mkA (idx122.calls p cp A0 c0 l0 w hr0 hc0 hlen hf)
  clear hr0 hc0 hf
  go_enter Try.func124, Try.ntmps124
  go_wp2_with fail
  refine HC.out.mono ?_
  rintro e w' ⟨rfl, hb'⟩
  go_wp2
  go_ret
  exact ⟨by rw [← fi_any]; rfl, hb'⟩
/-- The function literal inside soap.all: it says whether an element does not pass. -/
theorem not122.calls (b : Bool) (x : S122) (sv : Value) (bx : Nat) (w : World) (hbx : w.cell? ⟨bx, 0, none⟩ = some (.func (.func 99) #[sv] #[]))
    (hf : ∀ W : World, Below w.heap.size w W → Calls Try.prog 99 #[sv, .agg #[.int .i64 x.f0, .int .i64 x.f1, .int .i64 x.f2.f0, .int .i64 x.f2.f1]] W fun e w' => e = .returned (.bool b) ∧ Below W.heap.size W w') :
    Calls Try.prog 125 #[.agg #[.int .i64 x.f0, .int .i64 x.f1, .int .i64 x.f2.f0, .int .i64 x.f2.f1], .pointer (some ⟨bx, 0, none⟩)] w fun e w' => e = .returned (.bool (!b)) ∧ Below w.heap.size w w' := by
  have hlt : bx < w.heap.size := World.block_lt_of_cell? w ⟨bx, 0, none⟩ hbx
  have HC := mkA hf
  clear hf
  go_enter Try.func125, Try.ntmps125
  go_wp2_with fail
  refine (HC.out _ (z10 (Below.refl _ _) _)).mono ?_
  rintro e w' ⟨rfl, hb⟩
  have HB := mkA (z17 (z10 (Below.refl _ _) _) hb)
  clear hb hbx hlt HC
  go_wp2
  go_ret
  exact ⟨rfl, HB.out⟩
set_option maxHeartbeats 1000000 in
set_option maxRecDepth 100000 in
/-- soap.all over entries, at the method value of a slate. -/
theorem all122.calls (p : S122 → Bool) (sv : Value) (A0 : Option Addr) (c0 : Nat) (l0 : List S122) (w : World) (hr0 : Kd.C k122 w A0 l0.length l0) (hc0 : l0.length ≤ c0)
    (hlen : (l0.length : Int) ≤ 140737488355328)
    (hf : ∀ (x : S122) (W : World), Below w.heap.size w W → Calls Try.prog 99 #[sv, .agg #[.int .i64 x.f0, .int .i64 x.f1, .int .i64 x.f2.f0, .int .i64 x.f2.f1]] W fun e w' => e = .returned (.bool (p x)) ∧ Below W.heap.size W w') :
    Calls Try.prog 101 #[.slice A0 l0.length c0, .func (.func 99) #[sv] #[]] w fun e w' => e = .returned (.bool (l0.all p)) ∧ Below w.heap.size w w' := by
  have hbw : Below w.heap.size w (w.alloc (.cells #[.func (.func 99) #[sv] #[]] 146)) := z10 (Below.refl _ _) _
  have HCC := mkA (cont122.calls (fun x => !p x) #[.pointer (some ⟨w.heap.size, 0, none⟩)] A0 c0 l0 (w.alloc (.cells #[.func (.func 99) #[sv] #[]] 146)) (Kd.C_below hr0 hbw) hc0 hlen (by
    intro i W h0 h1 hb
    have hcell : W.cell? ⟨w.heap.size, 0, none⟩ = some (.func (.func 99) #[sv] #[]) := (hb.cell (p := ⟨w.heap.size, 0, none⟩) (by simp)).trans (by simp)
    exact not122.calls (p (rd_T122 l0 i)) (rd_T122 l0 i) sv w.heap.size W hcell (fun W2 h2 => hf _ W2 (z17 (z17 hbw hb) h2))))
  clear hf hr0 hc0
  go_enter Try.func101, Try.ntmps101
  go_wp2_with fail
  refine HCC.out.mono ?_
  rintro e w' ⟨rfl, hb⟩
  have HB := mkA (z17 hbw hb)
  clear hb hbw HCC
  go_wp2
  go_ret
  exact ⟨by simp [List.all_eq_not_any_not], HB.out⟩
set_option maxHeartbeats 1000000 in
set_option maxRecDepth 100000 in
theorem idx124.calls (p : S124 → Bool) (cp : Array Value) (A0 : Option Addr) (c0 : Nat) (l0 : List S124) (w : World) (hr0 : Kd.C k124 w A0 l0.length l0) (hc0 : l0.length ≤ c0)
    (hlen : (l0.length : Int) ≤ 140737488355328)
    (hf : ∀ (i : Int) (W : World), 0 ≤ i → i < l0.length → Below w.heap.size w W → Calls Try.prog 127 (#[.agg #[.int .i64 (rd_T124 l0 i).f0, .int .i64 (rd_T124 l0 i).f1.f0, .int .i64 (rd_T124 l0 i).f1.f1]] ++ cp) W fun e w' => e = .returned (.bool (p (rd_T124 l0 i))) ∧ Below W.heap.size W w') :
    Calls Try.prog 134 #[.slice A0 l0.length c0, .func (.func 127) #[] cp] w fun e w' => e = .returned (.int .i64 (fi p l0)) ∧ Below w.heap.size w w' := by
  have HR0 := mkA hr0
  have HC0 := mkA hc0
  have HF := mkA hf
  clear hr0 hc0 hf
  go_enter Try.func134, Try.ntmps134
  go_wp2
  go_loopw [8] (fun i wr => ∃ k : Int, 0 ≤ k ∧ k ≤ l0.length ∧ i = .int .i64 k ∧ Aside0 (∀ j : Int, 0 ≤ j → j < k → p (rd_T124 l0 j) = false) ∧ Below w.heap.size w wr) (fun i _ => l0.length - (intOf i).toNat)
  case atStart => exact ⟨0, by omega, by omega, rfl, ⟨fun j h0 h1 => by omega⟩, Below.refl _ _⟩
  case round =>
    obtain ⟨k, hk1, hk2, rfl, HN, hb⟩ := hrel
    have HB := mkA hb
    clear hb
    by_cases hlt : k < l0.length
    · have c3b0 : decide (k < (l0.length : Int)) = true := decide_eq_true hlt
      obtain ⟨ad1, e1, hx1, hx2, hx3⟩ := at_T124 (Kd.C_below HR0.out HB.out) k (by omega) hlt
      cases e1
      have HC := mkA (HF.out k wr hk1 hlt HB.out)
      have p1 : 0 ≤ k := by omega
      go_wp2_with fail
      refine HC.out.mono ?_
      rintro e w' ⟨rfl, hb'⟩
      have HB2 := mkA (HB.out.trans (hb'.mono HB.out.size))
      clear hx1 hx2 hx3 hb'
      cases hp : p (rd_T124 l0 k) with
      | true =>
        have HP := mkA hp
        clear hp
        go_wp2
        go_ret
        exact ⟨by rw [fi_some z124 p l0 k hk1 hlt HN.out HP.out]; rfl, HB2.out⟩
      | false =>
        have HP := mkA hp
        clear hp
        go_wp2
        go_roundw
        case rel =>
          refine ⟨k + 1, by omega, by omega, by go_num, ⟨fun j h0 h1 => ?_⟩, HB2.out⟩
          by_cases hj : j < k
          · exact HN.out j h0 hj
          · obtain rfl : j = k := by omega
            exact HP.out
        case measure => simp [intOf]; omega
    · have c3b0 : decide (k < (l0.length : Int)) = false := decide_eq_false hlt
      obtain rfl : k = l0.length := by omega
      go_wp2
      go_ret
      exact ⟨by rw [fi_none z124 p l0 HN.out]; rfl, HB.out⟩
set_option maxHeartbeats 1000000 in
set_option maxRecDepth 100000 in
theorem cont124.calls (p : S124 → Bool) (cp : Array Value) (A0 : Option Addr) (c0 : Nat) (l0 : List S124) (w : World) (hr0 : Kd.C k124 w A0 l0.length l0) (hc0 : l0.length ≤ c0)
    (hlen : (l0.length : Int) ≤ 140737488355328)
    (hf : ∀ (i : Int) (W : World), 0 ≤ i → i < l0.length → Below w.heap.size w W → Calls Try.prog 127 (#[.agg #[.int .i64 (rd_T124 l0 i).f0, .int .i64 (rd_T124 l0 i).f1.f0, .int .i64 (rd_T124 l0 i).f1.f1]] ++ cp) W fun e w' => e = .returned (.bool (p (rd_T124 l0 i))) ∧ Below W.heap.size W w') :
    Calls Try.prog 126 #[.slice A0 l0.length c0, .func (.func 127) #[] cp] w fun e w' => e = .returned (.bool (l0.any p)) ∧ Below w.heap.size w w' := by
  have HC := mkA (idx124.calls p cp A0 c0 l0 w hr0 hc0 hlen hf)
  clear hr0 hc0 hf
  go_enter Try.func126, Try.ntmps126
  go_wp2_with fail
  refine HC.out.mono ?_
  rintro e w' ⟨rfl, hb'⟩
  go_wp2
  go_ret
  exact ⟨by rw [← fi_any]; rfl, hb'⟩
/-- The function literal inside soap.all: it says whether an element does not pass. -/
theorem not124.calls (b : Bool) (x : S124) (sv : Value) (bx : Nat) (w : World) (hbx : w.cell? ⟨bx, 0, none⟩ = some (.func (.func 100) #[sv] #[]))
    (hf : ∀ W : World, Below w.heap.size w W → Calls Try.prog 100 #[sv, .agg #[.int .i64 x.f0, .int .i64 x.f1.f0, .int .i64 x.f1.f1]] W fun e w' => e = .returned (.bool b) ∧ Below W.heap.size W w') :
    Calls Try.prog 127 #[.agg #[.int .i64 x.f0, .int .i64 x.f1.f0, .int .i64 x.f1.f1], .pointer (some ⟨bx, 0, none⟩)] w fun e w' => e = .returned (.bool (!b)) ∧ Below w.heap.size w w' := by
  have hlt : bx < w.heap.size := World.block_lt_of_cell? w ⟨bx, 0, none⟩ hbx
  have HC := mkA hf
  clear hf
  go_enter Try.func127, Try.ntmps127
  go_wp2_with fail
  refine (HC.out _ (z10 (Below.refl _ _) _)).mono ?_
  rintro e w' ⟨rfl, hb⟩
  have HB := mkA (z17 (z10 (Below.refl _ _) _) hb)
  clear hb hbx hlt HC
  go_wp2
  go_ret
  exact ⟨rfl, HB.out⟩
set_option maxHeartbeats 1000000 in
set_option maxRecDepth 100000 in
/-- soap.all over sayings, at the method value of a slate. -/
theorem all124.calls (p : S124 → Bool) (sv : Value) (A0 : Option Addr) (c0 : Nat) (l0 : List S124) (w : World) (hr0 : Kd.C k124 w A0 l0.length l0) (hc0 : l0.length ≤ c0)
    (hlen : (l0.length : Int) ≤ 140737488355328)
    (hf : ∀ (x : S124) (W : World), Below w.heap.size w W → Calls Try.prog 100 #[sv, .agg #[.int .i64 x.f0, .int .i64 x.f1.f0, .int .i64 x.f1.f1]] W fun e w' => e = .returned (.bool (p x)) ∧ Below W.heap.size W w') :
    Calls Try.prog 102 #[.slice A0 l0.length c0, .func (.func 100) #[sv] #[]] w fun e w' => e = .returned (.bool (l0.all p)) ∧ Below w.heap.size w w' := by
  have hbw : Below w.heap.size w (w.alloc (.cells #[.func (.func 100) #[sv] #[]] 147)) := z10 (Below.refl _ _) _
  have HCC := mkA (cont124.calls (fun x => !p x) #[.pointer (some ⟨w.heap.size, 0, none⟩)] A0 c0 l0 (w.alloc (.cells #[.func (.func 100) #[sv] #[]] 147)) (Kd.C_below hr0 hbw) hc0 hlen (by
    intro i W h0 h1 hb
    have hcell : W.cell? ⟨w.heap.size, 0, none⟩ = some (.func (.func 100) #[sv] #[]) := (hb.cell (p := ⟨w.heap.size, 0, none⟩) (by simp)).trans (by simp)
    exact not124.calls (p (rd_T124 l0 i)) (rd_T124 l0 i) sv w.heap.size W hcell (fun W2 h2 => hf _ W2 (z17 (z17 hbw hb) h2))))
  clear hf hr0 hc0
  go_enter Try.func102, Try.ntmps102
  go_wp2_with fail
  refine HCC.out.mono ?_
  rintro e w' ⟨rfl, hb⟩
  have HB := mkA (z17 hbw hb)
  clear hb hbw HCC
  go_wp2
  go_ret
  exact ⟨by simp [List.all_eq_not_any_not], HB.out⟩
set_option maxHeartbeats 1000000 in
set_option maxRecDepth 100000 in
theorem idx76.calls (p : S76 → Bool) (cp : Array Value) (A0 : Option Addr) (c0 : Nat) (l0 : List S76) (w : World) (hr0 : Kd.C k76 w A0 l0.length l0) (hc0 : l0.length ≤ c0)
    (hlen : (l0.length : Int) ≤ 140737488355328)
    (hf : ∀ (i : Int) (W : World), 0 ≤ i → i < l0.length → Below w.heap.size w W → Calls Try.prog 117 (#[.agg #[.int .i64 (rd_T76 l0 i).f0, .int .i64 (rd_T76 l0 i).f1, .int .i64 (rd_T76 l0 i).f2]] ++ cp) W fun e w' => e = .returned (.bool (p (rd_T76 l0 i))) ∧ Below W.heap.size W w') :
    Calls Try.prog 131 #[.slice A0 l0.length c0, .func (.func 117) #[] cp] w fun e w' => e = .returned (.int .i64 (fi p l0)) ∧ Below w.heap.size w w' := by
  have HR0 := mkA hr0
  have HC0 := mkA hc0
  have HF := mkA hf
  clear hr0 hc0 hf
  go_enter Try.func131, Try.ntmps131
  go_wp2
  go_loopw [8] (fun i wr => ∃ k : Int, 0 ≤ k ∧ k ≤ l0.length ∧ i = .int .i64 k ∧ Aside0 (∀ j : Int, 0 ≤ j → j < k → p (rd_T76 l0 j) = false) ∧ Below w.heap.size w wr) (fun i _ => l0.length - (intOf i).toNat)
  case atStart => exact ⟨0, by omega, by omega, rfl, ⟨fun j h0 h1 => by omega⟩, Below.refl _ _⟩
  case round =>
    obtain ⟨k, hk1, hk2, rfl, HN, hb⟩ := hrel
    have HB := mkA hb
    clear hb
    by_cases hlt : k < l0.length
    · have c3b0 : decide (k < (l0.length : Int)) = true := decide_eq_true hlt
      obtain ⟨ad1, e1, hx1, hx2, hx3⟩ := at_T76 (Kd.C_below HR0.out HB.out) k (by omega) hlt
      cases e1
      have HC := mkA (HF.out k wr hk1 hlt HB.out)
      have p1 : 0 ≤ k := by omega
      go_wp2_with fail
      refine HC.out.mono ?_
      rintro e w' ⟨rfl, hb'⟩
      have HB2 := mkA (HB.out.trans (hb'.mono HB.out.size))
      clear hx1 hx2 hx3 hb'
      cases hp : p (rd_T76 l0 k) with
      | true =>
        have HP := mkA hp
        clear hp
        go_wp2
        go_ret
        exact ⟨by rw [fi_some z76 p l0 k hk1 hlt HN.out HP.out]; rfl, HB2.out⟩
      | false =>
        have HP := mkA hp
        clear hp
        go_wp2
        go_roundw
        case rel =>
          refine ⟨k + 1, by omega, by omega, by go_num, ⟨fun j h0 h1 => ?_⟩, HB2.out⟩
          by_cases hj : j < k
          · exact HN.out j h0 hj
          · obtain rfl : j = k := by omega
            exact HP.out
        case measure => simp [intOf]; omega
    · have c3b0 : decide (k < (l0.length : Int)) = false := decide_eq_false hlt
      obtain rfl : k = l0.length := by omega
      go_wp2
      go_ret
      exact ⟨by rw [fi_none z76 p l0 HN.out]; rfl, HB.out⟩
set_option maxHeartbeats 1000000 in
set_option maxRecDepth 100000 in
theorem cont76.calls (p : S76 → Bool) (cp : Array Value) (A0 : Option Addr) (c0 : Nat) (l0 : List S76) (w : World) (hr0 : Kd.C k76 w A0 l0.length l0) (hc0 : l0.length ≤ c0)
    (hlen : (l0.length : Int) ≤ 140737488355328)
    (hf : ∀ (i : Int) (W : World), 0 ≤ i → i < l0.length → Below w.heap.size w W → Calls Try.prog 117 (#[.agg #[.int .i64 (rd_T76 l0 i).f0, .int .i64 (rd_T76 l0 i).f1, .int .i64 (rd_T76 l0 i).f2]] ++ cp) W fun e w' => e = .returned (.bool (p (rd_T76 l0 i))) ∧ Below W.heap.size W w') :
    Calls Try.prog 116 #[.slice A0 l0.length c0, .func (.func 117) #[] cp] w fun e w' => e = .returned (.bool (l0.any p)) ∧ Below w.heap.size w w' := by
  have HC := mkA (idx76.calls p cp A0 c0 l0 w hr0 hc0 hlen hf)
  clear hr0 hc0 hf
  go_enter Try.func116, Try.ntmps116
  go_wp2_with fail
  refine HC.out.mono ?_
  rintro e w' ⟨rfl, hb'⟩
  go_wp2
  go_ret
  exact ⟨by rw [← fi_any]; rfl, hb'⟩
/-- The function literal inside soap.all: it says whether an element does not pass. -/
theorem not76.calls (b : Bool) (x : S76) (sv : Value) (bx : Nat) (w : World) (hbx : w.cell? ⟨bx, 0, none⟩ = some (.func (.func 93) #[sv] #[]))
    (hf : ∀ W : World, Below w.heap.size w W → Calls Try.prog 93 #[sv, .agg #[.int .i64 x.f0, .int .i64 x.f1, .int .i64 x.f2]] W fun e w' => e = .returned (.bool b) ∧ Below W.heap.size W w') :
    Calls Try.prog 117 #[.agg #[.int .i64 x.f0, .int .i64 x.f1, .int .i64 x.f2], .pointer (some ⟨bx, 0, none⟩)] w fun e w' => e = .returned (.bool (!b)) ∧ Below w.heap.size w w' := by
  have hlt : bx < w.heap.size := World.block_lt_of_cell? w ⟨bx, 0, none⟩ hbx
  have HC := mkA hf
  clear hf
  go_enter Try.func117, Try.ntmps117
  go_wp2_with fail
  refine (HC.out _ (z10 (Below.refl _ _) _)).mono ?_
  rintro e w' ⟨rfl, hb⟩
  have HB := mkA (z17 (z10 (Below.refl _ _) _) hb)
  clear hb hbx hlt HC
  go_wp2
  go_ret
  exact ⟨rfl, HB.out⟩
set_option maxHeartbeats 1000000 in
set_option maxRecDepth 100000 in
/-- soap.all over payments, at the method value of a slate. -/
theorem all76.calls (p : S76 → Bool) (sv : Value) (A0 : Option Addr) (c0 : Nat) (l0 : List S76) (w : World) (hr0 : Kd.C k76 w A0 l0.length l0) (hc0 : l0.length ≤ c0)
    (hlen : (l0.length : Int) ≤ 140737488355328)
    (hf : ∀ (x : S76) (W : World), Below w.heap.size w W → Calls Try.prog 93 #[sv, .agg #[.int .i64 x.f0, .int .i64 x.f1, .int .i64 x.f2]] W fun e w' => e = .returned (.bool (p x)) ∧ Below W.heap.size W w') :
    Calls Try.prog 92 #[.slice A0 l0.length c0, .func (.func 93) #[sv] #[]] w fun e w' => e = .returned (.bool (l0.all p)) ∧ Below w.heap.size w w' := by
  have hbw : Below w.heap.size w (w.alloc (.cells #[.func (.func 93) #[sv] #[]] 142)) := z10 (Below.refl _ _) _
  have HCC := mkA (cont76.calls (fun x => !p x) #[.pointer (some ⟨w.heap.size, 0, none⟩)] A0 c0 l0 (w.alloc (.cells #[.func (.func 93) #[sv] #[]] 142)) (Kd.C_below hr0 hbw) hc0 hlen (by
    intro i W h0 h1 hb
    have hcell : W.cell? ⟨w.heap.size, 0, none⟩ = some (.func (.func 93) #[sv] #[]) := (hb.cell (p := ⟨w.heap.size, 0, none⟩) (by simp)).trans (by simp)
    exact not76.calls (p (rd_T76 l0 i)) (rd_T76 l0 i) sv w.heap.size W hcell (fun W2 h2 => hf _ W2 (z17 (z17 hbw hb) h2))))
  clear hf hr0 hc0
  go_enter Try.func92, Try.ntmps92
  go_wp2_with fail
  refine HCC.out.mono ?_
  rintro e w' ⟨rfl, hb⟩
  have HB := mkA (z17 hbw hb)
  clear hb hbw HCC
  go_wp2
  go_ret
  exact ⟨by simp [List.all_eq_not_any_not], HB.out⟩
end Go.Proofs.Ytncaadckehikpaa.Q
namespace Go.Proofs.Ytncaadckehikpaa.Q
open Go.RowKit Go.Proofs.YtncaadckehikpaaW.PrintWords Go.Proofs.YtncaadckehikpaaW.PrintLast Go.Proofs.YtncaadckehikpaaW.PrintMore
attribute [local go_sem] z37 z36 max_two min_two
set_option linter.unusedVariables false
set_option linter.unusedSimpArgs false
/-- The least of a list's first n numbers, its first one among them. -/
def minTo (l : List Int) (n : Nat) : Int := (l.take n).foldl mn (rd l 0)
theorem take_snoc_int (l : List Int) (i : Int) (h0 : 0 ≤ i) (h : i < l.length) : l.take (i.toNat + 1) = l.take i.toNat ++ [rd l i] := by
  have hn : i.toNat < l.length := by omega
  rw [List.take_succ_eq_append_getElem hn]
  simp [rd, List.getD, hn]
theorem minTo_step (l : List Int) (i : Int) (h0 : 0 ≤ i) (h : i < l.length) : minTo l (i + 1).toNat = mn (minTo l i.toNat) (rd l i) := by
  rw [show (i + 1).toNat = i.toNat + 1 by omega]
  unfold minTo
  rw [take_snoc_int l i h0 h, List.foldl_append]
  rfl
theorem minTo_one (l : List Int) (h : 0 < l.length) : minTo l 1 = rd l 0 := by
  cases l with
  | nil => simp at h
  | cons a t => simp [minTo, rd, mn]
set_option maxHeartbeats 1000000 in
set_option maxRecDepth 100000 in
theorem slices_Min.calls (A0 : Option Addr) (c0 : Nat) (l0 : List Int) (w : World) (hr0 : Kd.C (Kd.int .i64) w A0 l0.length l0) (hc0 : l0.length ≤ c0) (hne : 0 < l0.length) (hlen : (l0.length : Int) ≤ 140737488355328) :
    Calls Try.prog 128 #[.slice A0 l0.length c0] w fun e w' => e = .returned (.int .i64 (minTo l0 l0.length)) ∧ Drawn0 w w' := by
  have HR0 := mkA hr0
  have HC0 := mkA hc0
  clear hr0 hc0
  have g1 : decide ((l0.length : Int) < 1) = false := decide_eq_false (by omega)
  have g2 : decide (l0.length < 1) = false := decide_eq_false (by omega)
  obtain ⟨ad0, e0, hx00⟩ := Kd.at_int HR0.out 0 (by omega) (by omega)
  cases e0
  have hx0 : w.cell? ad0 = some (.int .i64 (rd l0 0)) := hx00
  clear hx00
  go_enter Try.func128, Try.ntmps128
  go_wp2
  go_loop [3, 4] (fun m i => ∃ k : Int, 1 ≤ k ∧ k ≤ l0.length ∧ i = .int .i64 k ∧ m = .int .i64 (minTo l0 k.toNat)) (fun _ i => l0.length - (intOf i).toNat)
  case atStart => exact ⟨1, by omega, by omega, rfl, by rw [show (1 : Int).toNat = 1 from rfl, minTo_one l0 hne]⟩
  case round =>
    obtain ⟨k, hk1, hk2, rfl, rfl⟩ := hrel
    clear hx0
    by_cases hlt : k < l0.length
    · have c3b0 : decide (k < (l0.length : Int)) = true := decide_eq_true hlt
      obtain ⟨ad1, e1, hx1⟩ := Kd.at_int HR0.out k (by omega) hlt
      cases e1
      have HS := Lib.hid (minTo_step l0 k (by omega) hlt)
      have p1 : 0 ≤ k := by omega
      go_wp2
      go_round
      case rel => exact ⟨k + 1, by omega, by omega, by go_num, by rw [HS.out]; rfl⟩
      case measure => simp [intOf]; omega
    · have c3b0 : decide (k < (l0.length : Int)) = false := decide_eq_false hlt
      obtain rfl : k = l0.length := by omega
      go_wp2
      go_ret
      exact ⟨rfl, Drawn0.refl _⟩
/-- soap.minimum. -/
def soap_minimum.f (l0 : List Int) : Option Int := if 0 < l0.length ∧ (l0.length : Int) ≤ 140737488355328 then some (minTo l0 l0.length) else none
set_option maxHeartbeats 1000000 in
set_option maxRecDepth 100000 in
theorem soap_minimum.calls (A0 : Option Addr) (c0 : Nat) (l0 : List Int) (r : Int) (w : World) (hr0 : Kd.C (Kd.int .i64) w A0 l0.length l0) (hc0 : l0.length ≤ c0) (h : soap_minimum.f l0 = some r) :
    Calls Try.prog 103 #[.slice A0 l0.length c0] w fun e w' => e = .returned (.int .i64 r) ∧ Drawn0 w w' := by
  unfold soap_minimum.f at h
  split at h
  case isFalse => cases h
  case isTrue hh =>
    obtain ⟨h1, h2⟩ := hh
    obtain rfl := Option.some.inj h
    have HM := Lib.hid (slices_Min.calls A0 c0 l0 w hr0 hc0 h1 h2)
    clear hr0 hc0 h1 h2 h
    go_enter Try.func103, Try.ntmps103
    go_wp2_with fail
    refine HM.out.mono ?_
    rintro e w' ⟨rfl, hd⟩
    go_wp2
    go_ret
    exact ⟨rfl, hd⟩
end Go.Proofs.Ytncaadckehikpaa.Q
namespace Go.Proofs.Ytncaadckehikpaa.Q
open Go.RowKit Go.Proofs.YtncaadckehikpaaW.PrintWords Go.Proofs.YtncaadckehikpaaW.PrintLast Go.Proofs.YtncaadckehikpaaW.PrintMore
set_option linter.unusedVariables false
set_option linter.unusedSimpArgs false
/-- A block of whole numbers reads as their list. -/
theorem C_ints {w : World} {g : Nat} {e : TypeId} {fr : Nat × Nat} {k : IntKind} (xs : List Int) (hm : xs.length ≤ 9223372036854775807) (h : w.heap[g]? = some (.cells (xs.map (Value.int k)).toArray e fr)) :
    Kd.C (Kd.int k) w (some ⟨g, 0, none⟩) xs.length xs := by
  refine Kd.C_of_reads (enc := Value.int k) (d := (0 : Int)) (h1 := fun _ => rfl) ⟨rfl, hm, fun _ => ⟨_, rfl, fun j hj => ?_⟩⟩
  rw [add_plain, cell_of_row w g j _ e fr h]
  simp [List.getD, hj]
theorem z21 (w : World) (o : Obj) : (w.alloc o).heap[w.heap.size]? = some o := by
  show (w.heap.push o)[w.heap.size]? = some o
  simp
theorem blk_below {w W : World} {g : Nat} {o : Obj} (h : w.heap[g]? = some o) (hb : Below w.heap.size w W) : W.heap[g]? = some o := by
  have hl : g < w.heap.size := by
    rcases Nat.lt_or_ge g w.heap.size with hl | hl
    · exact hl
    · rw [Array.getElem?_eq_none hl] at h; cases h
  rw [hb.block g hl]; exact h
theorem z24 {w : World} {g : Nat} {o : Obj} (h : w.heap[g]? = some o) : g < w.heap.size := by
  rcases Nat.lt_or_ge g w.heap.size with hl | hl
  · exact hl
  · rw [Array.getElem?_eq_none hl] at h; cases h
/-- .. and the first of them as theirs. -/
theorem C_ints_take {w : World} {g : Nat} {e : TypeId} {fr : Nat × Nat} {k : IntKind} (xs : List Int) (m : Nat) (hx : m ≤ xs.length) (hm : xs.length ≤ 9223372036854775807) (h : w.heap[g]? = some (.cells (xs.map (Value.int k)).toArray e fr)) :
    Kd.C (Kd.int k) w (some ⟨g, 0, none⟩) m (xs.take m) := by
  refine Kd.C_of_reads (enc := Value.int k) (d := (0 : Int)) (h1 := fun _ => rfl) ⟨by simp; omega, by omega, fun _ => ⟨_, rfl, fun j hj => ?_⟩⟩
  rw [add_plain, cell_of_row w g j _ e fr h]
  have hj2 : j < xs.length := by omega
  simp [List.getD, hj2, hj]
theorem six {v : List Int} (h : v.length = 6) : v = [rd v 0, rd v 1, rd v 2, rd v 3, rd v 4, rd v 5] := by
  match v, h with
  | [a, b, c, d, e, f], _ => rfl
theorem six_map {v : List Int} (h : v.length = 6) : (v.map (Value.int .i64)).toArray = #[.int .i64 (rd v 0), .int .i64 (rd v 1), .int .i64 (rd v 2), .int .i64 (rd v 3), .int .i64 (rd v 4), .int .i64 (rd v 5)] := by
  match v, h with
  | [a, b, c, d, e, f], _ => rfl
/-- A store of what a cell holds. -/
theorem z26 {w : World} {a : Addr} {v : Value} (h : w.cell? a = some v) : w.setCell a v = w := by
  have hh : (w.setCell a v).heap = w.heap := by
    apply Array.ext_getElem?
    intro i
    simp only [World.setCell, Array.getElem?_modify]
    by_cases hi : a.block = i
    · subst hi
      rw [if_pos rfl]
      unfold World.cell? at h
      cases hb : w.heap[a.block]? with
      | none => rfl
      | some o =>
        rw [hb] at h
        cases o with
        | cells c e fr =>
          simp only at h
          split at h
          · cases h
          · rename_i hs
            simp only [Option.map_some]
            rw [if_neg hs]
            congr 2
            apply Array.ext_getElem?
            intro j
            by_cases hj : a.off = j
            · subst hj
              have hl : a.off < c.size := by
                rcases Nat.lt_or_ge a.off c.size with hl | hl
                · exact hl
                · rw [Array.getElem?_eq_none hl] at h; cases h
              rw [Array.getElem?_setIfInBounds_self_of_lt hl, h]
            · rw [Array.getElem?_setIfInBounds_ne hj]
        | _ => simp at h
    · rw [if_neg hi]
  show (⟨(w.setCell a v).heap, w.tape, w.drawn, w.os, w.output⟩ : World) = w
  rw [hh]
end Go.Proofs.Ytncaadckehikpaa.Q
