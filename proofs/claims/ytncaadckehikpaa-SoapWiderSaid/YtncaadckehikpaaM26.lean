/- A part of the proof: contracts of functions and plain facts (HLMore0, HWiderL). No condition. -/
import Derived.Test.YtncaadckehikpaaM25
import Derived.Test.YtncaadckehikpaaM22
import Derived.Test.YtncaadckehikpaaM24
namespace Go.Proofs.Ytncaadckehikpaa.Q
open Go.RowKit Go.Proofs.YtncaadckehikpaaW.PrintWords Go.Proofs.YtncaadckehikpaaW.PrintLast Go.Proofs.YtncaadckehikpaaW.PrintMore
set_option linter.unusedVariables false
set_option linter.unusedSimpArgs false
theorem poss_mem (l1 : List S122) (l2 : List S124) (out : List Int) : possB l1 l2 out = true ↔ ∃ os ∈ enumO [] l1, ∀ i : Nat, i < l2.length → rightAt l2 (owedL l1 os) out i = true := by
  unfold possB anyL
  rw [List.any_eq_true]
  unfold rightB
  simp only [decide_eq_true_eq]
theorem ready_split {n : Int} {l1 : List S91} {l2 : List S94} (k : Nat) (hk : 40 ≤ k) : pl_ready.f k n l1 l2 = some (decide (checkS n (l1.map c91) (l2.map c94) = 0)) := by
  rw [ready_f k n l1 l2 hk]
  by_cases h : checkS n (l1.map c91) (l2.map c94) = 0
  · obtain ⟨z0, z1, z2, z3, z4, z5⟩ := z48 h
    rw [decide_eq_true (show l1.length ≤ 30 ∧ l2.length ≤ 30 by omega), decide_eq_true h]
    rfl
  · rw [decide_eq_false h, Bool.and_false]
end Go.Proofs.Ytncaadckehikpaa.Q
namespace Go.Proofs.Ytncaadckehikpaa.Q
open Go.RowKit Go.Proofs.YtncaadckehikpaaW.PrintWords Go.Proofs.YtncaadckehikpaaW.PrintLast Go.Proofs.YtncaadckehikpaaW.PrintMore
set_option linter.unusedVariables false
set_option linter.unusedSimpArgs false
def wideE (l : List S91) (k : Nat) (d0 d1 : Int) : List S91 := l.set k ⟨(rd_T91 l (k : Int)).f0, (rd_T91 l (k : Int)).f1, ⟨(rd_T91 l (k : Int)).f2.f0 - d0, (rd_T91 l (k : Int)).f2.f1 + d1⟩⟩
def wideS (l : List S94) (k : Nat) (d0 d1 : Int) : List S94 := l.set k ⟨(rd_T94 l (k : Int)).f0, ⟨(rd_T94 l (k : Int)).f1.f0 - d0, (rd_T94 l (k : Int)).f1.f1 + d1⟩⟩
/-- A row of cells that read so. -/
theorem C_of_cells {α : Type} (d : Kd α) (f : α → List Value) {W : World} {g : Nat} (hK : ∀ x, d.K W x (f x)) (xs : List α) (hn : xs.length ≤ 9223372036854775807) (h : ∀ j p, xs[j]? = some p → ∀ i u, (f p)[i]? = some u → W.cell? ⟨g, j * d.sz + i, none⟩ = some u) : d.C W (some ⟨g, 0, none⟩) xs.length xs :=
  ⟨rfl, hn, fun _ => ⟨⟨g, 0, none⟩, rfl, fun j p hj => ⟨f p, d.K_len (hK p), hK p, fun i u hi => by rw [z43]; exact h j p hj i u hi⟩⟩⟩
theorem size_set (w : World) (p : Addr) (u : Value) : (w.setCell p u).heap.size = w.heap.size := by simp [World.setCell]
theorem heap_set_alloc (w : World) (p : Addr) (u : Value) (o : Obj) : ((w.setCell p u).alloc o).heap[w.heap.size]? = some o := by
  have := z19 (w.setCell p u) o
  rwa [size_set] at this
theorem ready_at (n : Int) (A1 : Option Addr) (m1 c1 : Nat) (l1 : List S91) (A2 : Option Addr) (m2 c2 : Nat) (l2 : List S94) (r : Bool) (w : World) (h1 : Kd.C k91 w A1 m1 l1) (g1 : m1 ≤ c1) (h2 : Kd.C k94 w A2 m2 l2) (g2 : m2 ≤ c2) (h : pl_ready.f 100 n l1 l2 = some r) :
    Calls Try.prog 45 #[.agg #[.int .i64 n, .slice A1 m1 c1, .slice A2 m2 c2]] w fun e w' => e = .returned (.bool r) ∧ Below w.heap.size w w' := by
  obtain rfl : l1.length = m1 := h1.1
  obtain rfl : l2.length = m2 := h2.1
  exact pl_ready.calls 100 n A1 c1 l1 A2 c2 l2 r w h1 g1 h2 g2 h
theorem d0_f (b : Int) (h0 : 0 ≤ b) (h1 : b < 256) : (IntKind.i64.wrap b).tmod 2 = b % 2 := by
  rw [i64_w, show wrap64 b = b by unfold wrap64; omega, Int.tmod_eq_emod_of_nonneg h0]
theorem d1_f (b : Int) (h0 : 0 ≤ b) (h1 : b < 256) : (IntKind.i64.wrap ((IntKind.i64.wrap b).tdiv 2)).tmod 2 = b / 2 % 2 := by
  rw [i64_w, i64_w, show wrap64 b = b by unfold wrap64; omega, Int.tdiv_eq_ediv_of_nonneg h0, show wrap64 (b / 2) = b / 2 by unfold wrap64; omega, Int.tmod_eq_emod_of_nonneg (by omega)]
theorem wrap_in (x : Int) (h0 : -1000 ≤ x) (h1 : x ≤ 1000) : IntKind.i64.wrap x = x := by
  rw [i64_w]; unfold wrap64; omega
theorem wide_get (cur : Array Value) (j : Nat) (x y : Value) (i : Nat) (hi : i ≠ j) (hi2 : i ≠ j + 1) : ((cur.setIfInBounds j x).setIfInBounds (j + 1) y)[i]? = cur[i]? := by
  rw [Array.getElem?_setIfInBounds_ne (by omega), Array.getElem?_setIfInBounds_ne (by omega)]
theorem wideE_C {W W' : World} {g : Nat} {l : List S91} {cur : Array Value} (h : Kd.C k91 W (some ⟨g, 0, none⟩) l.length l) (hb : W.heap[g]? = some (.cells cur 91 (0, 0))) (k : Nat) (hk : k < l.length) (d0 d1 : Int)
    (hb' : W'.heap[g]? = some (.cells ((cur.setIfInBounds (k * 4 + 2) (.int .i64 ((rd_T91 l (k : Int)).f2.f0 - d0))).setIfInBounds (k * 4 + 2 + 1) (.int .i64 ((rd_T91 l (k : Int)).f2.f1 + d1))) 91 (0, 0))) : Kd.C k91 W' (some ⟨g, 0, none⟩) l.length (wideE l k d0 d1) := by
  have hat : ∀ j : Nat, j < l.length → cur[j * 4]? = some (.int .i64 (rd_T91 l (j : Int)).f0) ∧ cur[j * 4 + 1]? = some (.int .i64 (rd_T91 l (j : Int)).f1) ∧ cur[j * 4 + 2]? = some (.int .i64 (rd_T91 l (j : Int)).f2.f0) ∧ cur[j * 4 + 3]? = some (.int .i64 (rd_T91 l (j : Int)).f2.f1) := fun j hj => by
    obtain ⟨ad, e, v0, v1, v2, v3⟩ := at_T91 h (j : Int) (by omega) (by omega)
    cases e
    rw [z43] at v0 v1 v2 v3
    simp only [Int.toNat_natCast] at v0 v1 v2 v3
    exact ⟨by rw [← z12 hb]; exact v0, by rw [← z12 hb]; exact v1, by rw [← z12 hb]; exact v2, by rw [← z12 hb]; exact v3⟩
  have hlen : (wideE l k d0 d1).length = l.length := by simp [wideE]
  have hn : l.length ≤ 9223372036854775807 := h.2.1
  have := C_of_cells k91 cells91 (fun x => k91_mk W' x) (wideE l k d0 d1) (by omega) (g := g) (W := W') (fun j p hj i u hi => ?_)
  · rwa [hlen] at this
  · rw [z12 hb']
    have hjl : j < l.length := by
      have := (List.getElem?_eq_some_iff.1 hj).1
      omega
    have hi4 : i < 4 := by
      have := (List.getElem?_eq_some_iff.1 hi).1
      simpa [cells91] using this
    obtain ⟨a0, a1, a2, a3⟩ := hat j hjl
    obtain ⟨b0, b1, b2, b3⟩ := hat k hk
    have hsz : k * 4 + 3 < cur.size := (Array.getElem?_eq_some_iff.1 b3).1
    show ((cur.setIfInBounds (k * 4 + 2) _).setIfInBounds (k * 4 + 2 + 1) _)[j * 4 + i]? = some u
    by_cases e : j = k
    · subst e
      rw [wideE, List.getElem?_set_self hjl] at hj
      obtain rfl := Option.some.inj hj
      have : i = 0 ∨ i = 1 ∨ i = 2 ∨ i = 3 := by omega
      rcases this with rfl | rfl | rfl | rfl
      · rw [wide_get _ _ _ _ _ (by omega) (by omega), Nat.add_zero, a0]; exact hi
      · rw [wide_get _ _ _ _ _ (by omega) (by omega), a1]; exact hi
      · rw [Array.getElem?_setIfInBounds_ne (by omega), Array.getElem?_setIfInBounds_self_of_lt (by omega)]; exact hi
      · rw [show j * 4 + 3 = j * 4 + 2 + 1 by omega, Array.getElem?_setIfInBounds_self_of_lt (by simp; omega)]; exact hi
    · rw [wideE, List.getElem?_set_ne (by omega)] at hj
      have hp : p = rd_T91 l (j : Int) := by rw [rd91 l j hjl]; exact (List.getElem?_eq_some_iff.1 hj).2.symm
      subst hp
      rw [wide_get _ _ _ _ _ (by omega) (by omega)]
      have : i = 0 ∨ i = 1 ∨ i = 2 ∨ i = 3 := by omega
      rcases this with rfl | rfl | rfl | rfl
      · rw [Nat.add_zero, a0]; exact hi
      · rw [a1]; exact hi
      · rw [a2]; exact hi
      · rw [a3]; exact hi
theorem wideS_C {W W' : World} {g : Nat} {l : List S94} {cur : Array Value} (h : Kd.C k94 W (some ⟨g, 0, none⟩) l.length l) (hb : W.heap[g]? = some (.cells cur 94 (0, 0))) (k : Nat) (hk : k < l.length) (d0 d1 : Int)
    (hb' : W'.heap[g]? = some (.cells ((cur.setIfInBounds (k * 3 + 1) (.int .i64 ((rd_T94 l (k : Int)).f1.f0 - d0))).setIfInBounds (k * 3 + 1 + 1) (.int .i64 ((rd_T94 l (k : Int)).f1.f1 + d1))) 94 (0, 0))) : Kd.C k94 W' (some ⟨g, 0, none⟩) l.length (wideS l k d0 d1) := by
  have hat : ∀ j : Nat, j < l.length → cur[j * 3]? = some (.int .i64 (rd_T94 l (j : Int)).f0) ∧ cur[j * 3 + 1]? = some (.int .i64 (rd_T94 l (j : Int)).f1.f0) ∧ cur[j * 3 + 2]? = some (.int .i64 (rd_T94 l (j : Int)).f1.f1) := fun j hj => by
    obtain ⟨ad, e, v0, v1, v2⟩ := at_T94 h (j : Int) (by omega) (by omega)
    cases e
    rw [z43] at v0 v1 v2
    simp only [Int.toNat_natCast] at v0 v1 v2
    exact ⟨by rw [← z12 hb]; exact v0, by rw [← z12 hb]; exact v1, by rw [← z12 hb]; exact v2⟩
  have hlen : (wideS l k d0 d1).length = l.length := by simp [wideS]
  have hn : l.length ≤ 9223372036854775807 := h.2.1
  have := C_of_cells k94 cells94 (fun x => k94_mk W' x) (wideS l k d0 d1) (by omega) (g := g) (W := W') (fun j p hj i u hi => ?_)
  · rwa [hlen] at this
  · rw [z12 hb']
    have hjl : j < l.length := by
      have := (List.getElem?_eq_some_iff.1 hj).1
      omega
    have hi4 : i < 3 := by
      have := (List.getElem?_eq_some_iff.1 hi).1
      simpa [cells94] using this
    obtain ⟨a0, a1, a2⟩ := hat j hjl
    obtain ⟨b0, b1, b2⟩ := hat k hk
    have hsz : k * 3 + 2 < cur.size := (Array.getElem?_eq_some_iff.1 b2).1
    show ((cur.setIfInBounds (k * 3 + 1) _).setIfInBounds (k * 3 + 1 + 1) _)[j * 3 + i]? = some u
    by_cases e : j = k
    · subst e
      rw [wideS, List.getElem?_set_self hjl] at hj
      obtain rfl := Option.some.inj hj
      have : i = 0 ∨ i = 1 ∨ i = 2 := by omega
      rcases this with rfl | rfl | rfl
      · rw [wide_get _ _ _ _ _ (by omega) (by omega), Nat.add_zero, a0]; exact hi
      · rw [Array.getElem?_setIfInBounds_ne (by omega), Array.getElem?_setIfInBounds_self_of_lt (by omega)]; exact hi
      · rw [show j * 3 + 2 = j * 3 + 1 + 1 by omega, Array.getElem?_setIfInBounds_self_of_lt (by simp; omega)]; exact hi
    · rw [wideS, List.getElem?_set_ne (by omega)] at hj
      have hp : p = rd_T94 l (j : Int) := by rw [rd94 l j hjl]; exact (List.getElem?_eq_some_iff.1 hj).2.symm
      subst hp
      rw [wide_get _ _ _ _ _ (by omega) (by omega)]
      have : i = 0 ∨ i = 1 ∨ i = 2 := by omega
      rcases this with rfl | rfl | rfl
      · rw [Nat.add_zero, a0]; exact hi
      · rw [a1]; exact hi
      · rw [a2]; exact hi
section
variable (n : Int) (A1 : Option Addr) (c1 : Nat) (l1 : List S91) (A2 : Option Addr) (c2 : Nat) (l2 : List S94) (a b : Int) (w : World)
  (hr1 : Kd.C k91 w A1 l1.length l1) (hc1 : l1.length ≤ c1) (hr2 : Kd.C k94 w A2 l2.length l2) (hc2 : l2.length ≤ c2)
set_option linter.unusedSectionVars false
include hr1 hc1 hr2 hc2
set_option maxHeartbeats 4000000 in
set_option maxRecDepth 100000 in
theorem wider_no (r : Bool) (f45 : pl_ready.f 100 n l1 l2 = some r) (h0 : r = true → l1.length = 0 ∧ l2.length = 0) :
    Calls Try.prog 14 #[.agg #[.int .i64 n, .slice A1 l1.length c1, .slice A2 l2.length c2], .int .u8 a, .int .u8 b] w fun e w' => e = .returned (.bool true) ∧ Below w.heap.size w w' := by
  have hu25 := Try.underlying25
  have HB := mkA (z10 (Below.refl w.heap.size w) (.cells #[.int .i64 n, .slice A1 l1.length c1, .slice A2 l2.length c2] 25))
  have HK := mkA (z19 w (.cells #[.int .i64 n, .slice A1 l1.length c1, .slice A2 l2.length c2] 25))
  have H45 := mkA (pl_ready.calls 100 n A1 c1 l1 A2 c2 l2 r _ (Kd.C_below hr1 HB.out) hc1 (Kd.C_below hr2 HB.out) hc2 f45)
  have H0 := mkA h0
  clear hr1 hr2 f45 h0
  go_enter Try.func14, Try.ntmps14
  go_wp2_with fail
  refine H45.out.mono ?_
  rintro e w1 ⟨rfl, hb⟩
  replace HB := mkA (z16 HB.out hb)
  replace HK := mkA (blk_below HK.out hb)
  clear hb H45
  obtain ⟨k0, k1, k2⟩ := box3 HK.out
  cases r with
  | false =>
    go_wp2_with fail
    refine (pl_awake.calls true _ rfl).mono ?_
    rintro e w2 ⟨rfl, hb⟩
    replace HB := mkA (z16 HB.out hb)
    clear hb
    go_wp2
    go_ret
    exact ⟨rfl, HB.out⟩
  | true =>
    obtain ⟨z1, z2⟩ := H0.out rfl
    generalize l1.length = m1 at *
    generalize l2.length = m2 at *
    subst z1
    subst z2
    go_wp2_with fail
    refine (pl_awake.calls true _ rfl).mono ?_
    rintro e w2 ⟨rfl, hb⟩
    replace HB := mkA (z16 HB.out hb)
    clear hb
    go_wp2
    go_ret
    exact ⟨rfl, HB.out⟩
set_option maxHeartbeats 4000000 in
set_option maxRecDepth 100000 in
theorem wider_yes (ha0 : 0 ≤ a) (ha1 : a < 256) (hb0 : 0 ≤ b) (hb1 : b < 256) (f45 : pl_ready.f 100 n l1 l2 = some true) (q1 : l1.length ≤ 6) (q2 : l2.length ≤ 5) (hpos : 0 < l1.length + l2.length)
    (hE : ∀ j : Nat, j < l1.length → -300 ≤ (rd_T91 l1 (j : Int)).f2.f0 ∧ (rd_T91 l1 (j : Int)).f2.f0 ≤ 300 ∧ -300 ≤ (rd_T91 l1 (j : Int)).f2.f1 ∧ (rd_T91 l1 (j : Int)).f2.f1 ≤ 300)
    (hS : ∀ j : Nat, j < l2.length → -300 ≤ (rd_T94 l2 (j : Int)).f1.f0 ∧ (rd_T94 l2 (j : Int)).f1.f0 ≤ 300 ∧ -300 ≤ (rd_T94 l2 (j : Int)).f1.f1 ∧ (rd_T94 l2 (j : Int)).f1.f1 ≤ 300)
    (X1 : List S122) (X2 : List S124) (hx : SlateOk w (.agg #[.int .i64 n, .slice A1 l1.length c1, .slice A2 l2.length c2]) n X1 X2) (k : Nat) (hk : a % ((l1.length : Int) + l2.length) = (k : Int)) (hk2 : k < l1.length + l2.length)
    (E : List S91) (S : List S94) (hes : if k < l1.length then E = wideE l1 k (b % 2) (b / 2 % 2) ∧ S = l2 else E = l1 ∧ S = wideS l2 (k - l1.length) (b % 2) (b / 2 % 2)) (r : Bool) (g45 : pl_ready.f 100 n E S = some r)
    (o o2 : List Int) (f40 : soap_Leave.f n X1 X2 = some (o, 0)) (Y1 : List S122) (Y2 : List S124) (hY1 : E.map c91 = Y1) (hY2 : S.map c94 = Y2) (g40 : r = true → soap_Leave.f n Y1 Y2 = some (o2, 0) ∧ o2.length ≤ o.length ∧ (o.length = 0 → CloserOk n l1 l2 n E S)) :
    Calls Try.prog 14 #[.agg #[.int .i64 n, .slice A1 l1.length c1, .slice A2 l2.length c2], .int .u8 a, .int .u8 b] w fun e w' => e = .returned (.bool true) ∧ Below w.heap.size w w' := by
  have hu25 := Try.underlying25
  have hu46 := Try.underlying46
  have H45 := mkA (fun (W : World) (hb : Below w.heap.size w W) => pl_ready.calls 100 n A1 c1 l1 A2 c2 l2 true W (Kd.C_below hr1 hb) hc1 (Kd.C_below hr2 hb) hc2 f45)
  have HX := mkA hx
  have HR1 := mkA hr1
  have HR2 := mkA hr2
  have HE := mkA hE
  have HS := mkA hS
  have KA := mkA hk
  have HES := mkA hes
  have G45 := mkA g45
  have F40 := mkA f40
  have G40 := mkA g40
  have E1 := mkA hY1
  have E2 := mkA hY2
  clear hx hr1 hr2 f45 hE hS hk hes g45 f40 g40 hY1 hY2
  have z1 : ((l1.length : Int) + l2.length == 0) = false := by rw [beq_eq_false_iff_ne]; omega
  have z2 : (l1.length : Int) + l2.length ≠ 0 := by omega
  have HB := mkA (z10 (Below.refl w.heap.size w) (.cells #[.int .i64 n, .slice A1 l1.length c1, .slice A2 l2.length c2] 25))
  have HK := mkA (z19 w (.cells #[.int .i64 n, .slice A1 l1.length c1, .slice A2 l2.length c2] 25))
  go_enter Try.func14, Try.ntmps14
  go_wp2_with fail
  refine (H45.out _ HB.out).mono ?_
  rintro e w1 ⟨rfl, hb⟩
  replace HB := mkA (z16 HB.out hb)
  replace HK := mkA (blk_below HK.out hb)
  clear hb
  obtain ⟨k0, k1, k2⟩ := box3 HK.out
  obtain ⟨j0, j1, j2⟩ := box3 (blk_below (blk_below HK.out (z10 (Below.refl _ _) (.cells #[.int .i64 n, .slice A1 l1.length c1, .slice A2 l2.length c2] 25))) (z10 (Below.refl _ _) (.cells #[] 91)))
  have hs1 := z22 HK.out
  have hs0 := HB.out.size
  have ka := KA.out
  have hka0 : (0 : Int) ≤ (k : Int) := by omega
  by_cases hk1 : k < l1.length
  · have c9 : decide ((k : Int) < (l1.length : Int)) = true := decide_eq_true (by omega)
    have c9' : decide (k < l1.length) = true := decide_eq_true hk1
    have hka1 : (k : Int) < (l1.length : Int) := by omega
    go_wp2_with (first | (at_builtin; refine Kd.R_append_rows k91 (w0 := w1) w1.heap.size rfl (.tmp 29) (.tmp 31) 22 91 (.agg #[(.int .i64 0), (.int .i64 0), (.int .i64 0), (.int .i64 0)]) 32 rfl Try.underlying22 info91 rfl (by decide) (by omega) (.slice (some ⟨w1.heap.size + 1, 0, none⟩) 0 0) [] l1 A1 l1.length c1 (fun _ => True) (fun _ => False) rfl rfl (R_none (heap_second w1 _ _) (by omega)) (Kd.C_below HR1.out (z10 (z10 HB.out _) _)) (fun _ _ h => h) (fun _ h => h.elim) (fun _ _ => trivial) (z10 (z10 (Below.refl _ _) _) _) (Below.size (z10 (z10 (Below.refl w1.heap.size w1) _) _)) (by simp; omega) ?_; intro v1 w2 ho hb hg hat; have HX0 := mkA (z36 (heap_first w1 (.cells #[.int .i64 n, .slice A1 l1.length c1, .slice A2 l2.length c2] 25) (.cells #[] 91)) hg (by simp [Value.ownBlock])); obtain ⟨P1, d1, hv, p1, RP⟩ := Kd.R_reads ho; simp only [List.nil_append] at hv ho p1; subst hv; have HK1 := mkA (blk_far (p := ⟨w1.heap.size, 1, none⟩) (blk_below HK.out hb) (show w.heap.size ≠ w1.heap.size by omega) (.slice P1 l1.length d1)); have LE := mkA (Kd.R_set ho HX0.out (by decide) 1 (.slice P1 l1.length d1)); have HB1 := mkA (z15 (j := 1) (v := (.slice P1 l1.length d1)) (z16 HB.out hb) hs0); have HX1 := mkA (blk_put HX0.out 1 (.slice P1 l1.length d1) rfl); obtain ⟨x0, x1, x2⟩ := box3 HX0.out; have f1 := z14 HX0.out 1; obtain ⟨i0, i1, i2⟩ := box3 (blk_below HK1.out (z10 (Below.refl _ _) (.cells #[] 94))); clear RP ho hg hat hb HX0 HK HB) | (at_builtin; refine Kd.R_append_rows k94 (w0 := (w2.setCell ⟨w1.heap.size, 1, none⟩ (.slice P1 l1.length d1))) ((w2.setCell ⟨w1.heap.size, 1, none⟩ (.slice P1 l1.length d1))).heap.size rfl (.tmp 34) (.tmp 36) 23 94 (.agg #[(.int .i64 0), (.int .i64 0), (.int .i64 0)]) 24 rfl Try.underlying23 info94 rfl (by decide) (by omega) (.slice (some ⟨w2.heap.size, 0, none⟩) 0 0) [] l2 A2 l2.length c2 (fun _ => True) (fun _ => False) rfl rfl (R_none (heap_set_alloc w2 _ _ _) (by rw [size_set]; exact Nat.le_refl _)) (Kd.C_below HR2.out (z10 HB1.out _)) (fun _ _ h => h) (fun _ h => h.elim) (fun _ _ => trivial) (z10 (Below.refl _ _) _) (Below.size (z10 (Below.refl _ _) _)) (by simp; omega) ?_; intro v2 w4 ho hb hg hat; obtain ⟨P2, d2, hv, p2, RP⟩ := Kd.R_reads ho; simp only [List.nil_append] at hv ho p2; subst hv; have HX2 := mkA (blk_below HX1.out hb); have HK2 := mkA (blk_far (p := ⟨w1.heap.size, 2, none⟩) (blk_below HK1.out hb) (show w.heap.size ≠ w1.heap.size by omega) (.slice P2 l2.length d2)); have LE2 := mkA (Kd.R_set (Kd.R_below LE.out hb) HX2.out (by decide) 2 (.slice P2 l2.length d2)); have LS2 := mkA (Kd.R_set ho HX2.out (by decide) 2 (.slice P2 l2.length d2)); have HB2 := mkA (z15 (j := 2) (v := (.slice P2 l2.length d2)) (z16 HB1.out hb) hs0); have HX3 := mkA (blk_put HX2.out 2 (.slice P2 l2.length d2) rfl); obtain ⟨y0, y1, y2⟩ := box3 HX2.out; have f2 := z14 HX2.out 2; have HSZ := mkA HB1.out.size; clear RP ho hg hat hb HX1 HK1 HB1 LE HX2 x0 x1 x2 f1 i0 i1 i2; obtain ⟨u0, u1, u2⟩ := box3 (blk_below HX3.out (z10 (Below.refl _ _) (.cells #[.int .i64 0, .int .i64 0] 46))); obtain ⟨g1, cap1, e1, hg1, hl1, cur, hcur⟩ := Kd.R_form LE2.out (by omega); simp only [Value.slice.injEq, true_and] at e1; obtain ⟨e1a, e1b⟩ := e1; subst e1a; subst e1b; have HG := mkA hcur; have HG1 := mkA hg1; have HG2 := mkA hl1; clear hg1 hl1 hcur) | fail)
    have bz : Below (w4.setCell ⟨w1.heap.size, 2, none⟩ (.slice P2 l2.length d2)).heap.size (w4.setCell ⟨w1.heap.size, 2, none⟩ (.slice P2 l2.length d2)) ((w4.setCell ⟨w1.heap.size, 2, none⟩ (.slice P2 l2.length d2)).alloc (.cells #[.int .i64 0, .int .i64 0] 46)) := z10 (Below.refl _ _) _
    have HX5 := mkA (blk_below HX3.out bz)
    have HK5 := mkA (blk_below HK2.out bz)
    have LE5 := mkA (Kd.R_below LE2.out bz)
    have LS5 := mkA (Kd.R_below LS2.out bz)
    have HB5 := mkA (z16 HB2.out bz)
    have HG5 := mkA (blk_below HG.out bz)
    clear bz HX3 HK2 LE2 LS2 HB2 HG HG2 u0 u1 u2 y0 y1 y2 f2 k0 k1 k2 j0 j1 j2
    generalize ((w4.setCell ⟨w1.heap.size, 2, none⟩ (.slice P2 l2.length d2)).alloc (.cells #[.int .i64 0, .int .i64 0] 46)) = w5 at HX5 HK5 LE5 LS5 HB5 HG5 ⊢
    obtain ⟨ad, e2, v0, v1, v2, v3⟩ := at_T91 (Kd.R_reads' LE5.out).2.2 (k : Int) (by omega) (by omega)
    cases e2
    obtain ⟨m0, m1, m2, m3⟩ := HE.out k hk1
    have y0 : w5.cell? ⟨g1, k * 4 + 2, none⟩ = some (.int .i64 (rd_T91 l1 (k : Int)).f2.f0) := by rw [z43] at v2; exact v2
    have y1 : w5.cell? ⟨g1, k * 4 + 2 + 1, none⟩ = some (.int .i64 (rd_T91 l1 (k : Int)).f2.f1) := by rw [z43] at v3; exact v3
    clear v0 v1 v2 v3
    have f0 := z14 HG5.out (k * 4 + 2)
    have f1 := z14 HG5.out (k * 4 + 2 + 1)
    go_region_with (fail)
    all_goals
      rw [d0_f b hb0 hb1, d1_f b hb0 hb1, wrap_in ((rd_T91 l1 (k : Int)).f2.f0 - b % 2) (by omega) (by omega), wrap_in ((rd_T91 l1 (k : Int)).f2.f1 + b / 2 % 2) (by omega) (by omega)]
      have hgw : w.heap.size ≤ g1 := by have := HG1.out; omega
      have ne1 : w1.heap.size ≠ g1 := blk_ne HX5.out HG5.out (by decide)
      have ne2 : w.heap.size ≠ g1 := blk_ne HK5.out HG5.out (by decide)
      have HGN := z40 (blk_put (blk_put HG5.out (k * 4 + 2) (.int .i64 ((rd_T91 l1 (k : Int)).f2.f0 - b % 2)) rfl) (k * 4 + 2 + 1) (.int .i64 ((rd_T91 l1 (k : Int)).f2.f1 + b / 2 % 2)) rfl)
      have HXN := mkA (z40 (blk_far (p := ⟨g1, k * 4 + 2 + 1, none⟩) (blk_far (p := ⟨g1, k * 4 + 2, none⟩) HX5.out ne1 (.int .i64 ((rd_T91 l1 (k : Int)).f2.f0 - b % 2))) ne1 (.int .i64 ((rd_T91 l1 (k : Int)).f2.f1 + b / 2 % 2))))
      have HKN := mkA (z40 (blk_far (p := ⟨g1, k * 4 + 2 + 1, none⟩) (blk_far (p := ⟨g1, k * 4 + 2, none⟩) HK5.out ne2 (.int .i64 ((rd_T91 l1 (k : Int)).f2.f0 - b % 2))) ne2 (.int .i64 ((rd_T91 l1 (k : Int)).f2.f1 + b / 2 % 2))))
      have HBN := mkA (z13 (z15 (j := k * 4 + 2 + 1) (v := (.int .i64 ((rd_T91 l1 (k : Int)).f2.f1 + b / 2 % 2))) (z15 (j := k * 4 + 2) (v := (.int .i64 ((rd_T91 l1 (k : Int)).f2.f0 - b % 2))) HB5.out hgw) hgw))
      have CE := mkA (wideE_C (Kd.R_reads' LE5.out).2.2 HG5.out k hk1 (b % 2) (b / 2 % 2) HGN)
      have CS := mkA (Kd.R_reads' (Kd.R_drew (Kd.R_set (Kd.R_set LS5.out HG5.out (by decide) (k * 4 + 2) (.int .i64 ((rd_T91 l1 (k : Int)).f2.f0 - b % 2))) (blk_put HG5.out (k * 4 + 2) (.int .i64 ((rd_T91 l1 (k : Int)).f2.f0 - b % 2)) rfl) (by decide) (k * 4 + 2 + 1) (.int .i64 ((rd_T91 l1 (k : Int)).f2.f1 + b / 2 % 2))))).2.2
      have hes := HES.out
      rw [if_pos hk1] at hes
      obtain ⟨he, hs⟩ := hes
      rw [← he] at CE
      have CS2 : Aside0 (Kd.C k94 ((w5.setCell ⟨g1, k * 4 + 2, none⟩ (.int .i64 ((rd_T91 l1 (k : Int)).f2.f0 - b % 2))).setCell ⟨g1, k * 4 + 2 + 1, none⟩ (.int .i64 ((rd_T91 l1 (k : Int)).f2.f1 + b / 2 % 2))).drew P2 l2.length S) := by rw [hs]; exact CS
      clear CS
      have CS := CS2
      clear CS2
      clear he hs HGN ne1 ne2 hgw HX5 HK5 LE5 LS5 HB5 HG5 HG1 y0 y1 f0 f1 m0 m1 m2 m3
      generalize ((w5.setCell ⟨g1, k * 4 + 2, none⟩ (.int .i64 ((rd_T91 l1 (k : Int)).f2.f0 - b % 2))).setCell ⟨g1, k * 4 + 2 + 1, none⟩ (.int .i64 ((rd_T91 l1 (k : Int)).f2.f1 + b / 2 % 2))).drew = w6 at HXN HKN HBN CE CS ⊢
      have hel : E.length = l1.length := CE.out.1
      have hsl : S.length = l2.length := CS.out.1
      have HZ := mkA (slate_ok n (some ⟨g1, 0, none⟩) l1.length d1 E P2 l2.length d2 S w6 CE.out p1 CS.out p2 (by omega) (by omega))
      rw [E1.out, E2.out] at HZ
      clear hel hsl E1 E2
      obtain ⟨x0, x1, x2⟩ := box3 HXN.out
      go_wp2_with fail
      refine (ready_at n (some ⟨g1, 0, none⟩) l1.length d1 E P2 l2.length d2 S r _ CE.out p1 CS.out p2 G45.out).mono ?_
      rintro e w7 ⟨rfl, hb⟩
      replace HXN := mkA (blk_below HXN.out hb)
      replace HKN := mkA (blk_below HKN.out hb)
      replace HBN := mkA (z16 HBN.out hb)
      replace CE := mkA (Kd.C_below CE.out hb)
      replace CS := mkA (Kd.C_below CS.out hb)
      replace HZ := mkA (SlateOk.below HZ.out hb)
      clear hb
      clear x0 x1 x2
      cases r with
      | false =>
        go_wp2_with fail
        refine (pl_awake.calls true _ rfl).mono ?_
        rintro e w8 ⟨rfl, hb⟩
        replace HXN := mkA (blk_below HXN.out hb)
        replace HKN := mkA (blk_below HKN.out hb)
        replace HBN := mkA (z16 HBN.out hb)
        replace CE := mkA (Kd.C_below CE.out hb)
        replace CS := mkA (Kd.C_below CS.out hb)
        replace HZ := mkA (SlateOk.below HZ.out hb)
        clear hb
        go_wp2
        go_ret
        exact ⟨rfl, HBN.out⟩
      | true =>
        obtain ⟨t1, t2, t3⟩ := G40.out rfl
        have T1 := mkA t1
        have T3 := mkA t3
        clear t1 t3
        obtain ⟨k0, k1, k2⟩ := box3 HKN.out
        go_wp2_with fail
        refine (HX.out _ HBN.out).mono ?_
        rintro e w8 ⟨B1, dd1, B2, dd2, rfl, h1, h2, h3, h4, hb⟩
        replace HXN := mkA (blk_below HXN.out hb)
        replace HKN := mkA (blk_below HKN.out hb)
        replace HBN := mkA (z16 HBN.out hb)
        replace CE := mkA (Kd.C_below CE.out hb)
        replace CS := mkA (Kd.C_below CS.out hb)
        replace HZ := mkA (SlateOk.below HZ.out hb)
        clear hb
        have Q1 := mkA h1
        clear h1
        have Q2 := mkA h3
        clear h3
        clear k0 k1 k2
        go_wp2_with fail
        refine (soap_Leave.calls n B1 dd1 X1 B2 dd2 X2 _ _ _ Q1.out h2 Q2.out h4 F40.out).mono ?_
        rintro e w9 ⟨vo, rfl, hl, hb⟩
        replace HXN := mkA (blk_below HXN.out hb)
        replace HKN := mkA (blk_below HKN.out hb)
        replace HBN := mkA (z16 HBN.out hb)
        replace CE := mkA (Kd.C_below CE.out hb)
        replace CS := mkA (Kd.C_below CS.out hb)
        replace HZ := mkA (SlateOk.below HZ.out hb)
        clear hb
        obtain ⟨PO, dO, rfl, qO, RO⟩ := Kd.R_reads hl
        clear hl RO qO Q1 Q2 h2 h4
        obtain ⟨k0, k1, k2⟩ := box3 HXN.out
        go_wp2_with fail
        refine (HZ.out _ (Below.refl _ _)).mono ?_
        rintro e w10 ⟨B1, dd1, B2, dd2, rfl, h1, h2, h3, h4, hb⟩
        replace HXN := mkA (blk_below HXN.out hb)
        replace HKN := mkA (blk_below HKN.out hb)
        replace HBN := mkA (z16 HBN.out hb)
        replace CE := mkA (Kd.C_below CE.out hb)
        replace CS := mkA (Kd.C_below CS.out hb)
        replace HZ := mkA (SlateOk.below HZ.out hb)
        clear hb
        have Q1 := mkA h1
        clear h1
        have Q2 := mkA h3
        clear h3
        clear k0 k1 k2
        go_wp2_with fail
        refine (soap_Leave.calls n B1 dd1 Y1 B2 dd2 Y2 _ _ _ Q1.out h2 Q2.out h4 T1.out).mono ?_
        rintro e w11 ⟨vo2, rfl, hl, hb⟩
        replace HXN := mkA (blk_below HXN.out hb)
        replace HKN := mkA (blk_below HKN.out hb)
        replace HBN := mkA (z16 HBN.out hb)
        replace CE := mkA (Kd.C_below CE.out hb)
        replace CS := mkA (Kd.C_below CS.out hb)
        replace HZ := mkA (SlateOk.below HZ.out hb)
        clear hb
        obtain ⟨PO2, dO2, rfl, qO2, RO2⟩ := Kd.R_reads hl
        clear hl RO2 qO2 Q1 Q2 h2 h4 HX HZ F40 T1
        have w9 : decide ((o.length : Int) < (o2.length : Int)) = false := decide_eq_false (by omega)
        have w9' : decide (o.length < o2.length) = false := decide_eq_false (by omega)
        by_cases ho : o.length = 0
        · have v9 : decide ((0 : Int) < (o.length : Int)) = false := decide_eq_false (by omega)
          have v9' : decide (0 < o.length) = false := decide_eq_false (by omega)
          have T4 := mkA (T3.out ho)
          clear T3 ho t2
          obtain ⟨k0, k1, k2⟩ := box3 HKN.out
          obtain ⟨x0, x1, x2⟩ := box3 HXN.out
          go_wp2_with fail
          refine (closer_at T4.out A1 l1.length c1 A2 l2.length c2 (some ⟨g1, 0, none⟩) l1.length d1 P2 l2.length d2 _ (Kd.C_below HR1.out HBN.out) hc1 (Kd.C_below HR2.out HBN.out) hc2 CE.out p1 CS.out p2).mono ?_
          rintro e w12 ⟨rfl, hb⟩
          replace HXN := mkA (blk_below HXN.out hb)
          replace HKN := mkA (blk_below HKN.out hb)
          replace HBN := mkA (z16 HBN.out hb)
          replace CE := mkA (Kd.C_below CE.out hb)
          replace CS := mkA (Kd.C_below CS.out hb)
          clear hb
          clear k0 k1 k2 x0 x1 x2
          go_wp2_with fail
          refine (pl_awake.calls true _ rfl).mono ?_
          rintro e w13 ⟨rfl, hb⟩
          replace HXN := mkA (blk_below HXN.out hb)
          replace HKN := mkA (blk_below HKN.out hb)
          replace HBN := mkA (z16 HBN.out hb)
          replace CE := mkA (Kd.C_below CE.out hb)
          replace CS := mkA (Kd.C_below CS.out hb)
          clear hb
          go_wp2
          go_ret
          exact ⟨rfl, HBN.out⟩
        · have v9 : decide ((0 : Int) < (o.length : Int)) = true := decide_eq_true (by omega)
          have v9' : decide (0 < o.length) = true := decide_eq_true (by omega)
          clear T3 ho t2
          go_wp2_with fail
          refine (pl_awake.calls true _ rfl).mono ?_
          rintro e w12 ⟨rfl, hb⟩
          replace HXN := mkA (blk_below HXN.out hb)
          replace HKN := mkA (blk_below HKN.out hb)
          replace HBN := mkA (z16 HBN.out hb)
          replace CE := mkA (Kd.C_below CE.out hb)
          replace CS := mkA (Kd.C_below CS.out hb)
          clear hb
          go_wp2
          go_ret
          exact ⟨rfl, HBN.out⟩
  · obtain ⟨j, hj⟩ : ∃ j, k = l1.length + j := ⟨k - l1.length, by omega⟩
    subst hj
    rw [show ((l1.length + j : Nat) : Int) = (l1.length : Int) + (j : Int) by omega] at ka
    have hj2 : j < l2.length := by omega
    have c9 : decide ((l1.length : Int) + (j : Int) < (l1.length : Int)) = false := decide_eq_false (by omega)
    have c9' : decide (l1.length + j < l1.length) = false := decide_eq_false (by omega)
    have c8 : ((j : Int) < 0) = False := eq_false (by omega)
    have hka1 : (j : Int) < (l2.length : Int) := by omega
    have hka2 : (0 : Int) ≤ (j : Int) := by omega
    have c7 : decide ((j : Int) < 0) = false := decide_eq_false (by omega)
    go_wp2_with (first | (at_builtin; refine Kd.R_append_rows k91 (w0 := w1) w1.heap.size rfl (.tmp 29) (.tmp 31) 22 91 (.agg #[(.int .i64 0), (.int .i64 0), (.int .i64 0), (.int .i64 0)]) 32 rfl Try.underlying22 info91 rfl (by decide) (by omega) (.slice (some ⟨w1.heap.size + 1, 0, none⟩) 0 0) [] l1 A1 l1.length c1 (fun _ => True) (fun _ => False) rfl rfl (R_none (heap_second w1 _ _) (by omega)) (Kd.C_below HR1.out (z10 (z10 HB.out _) _)) (fun _ _ h => h) (fun _ h => h.elim) (fun _ _ => trivial) (z10 (z10 (Below.refl _ _) _) _) (Below.size (z10 (z10 (Below.refl w1.heap.size w1) _) _)) (by simp; omega) ?_; intro v1 w2 ho hb hg hat; have HX0 := mkA (z36 (heap_first w1 (.cells #[.int .i64 n, .slice A1 l1.length c1, .slice A2 l2.length c2] 25) (.cells #[] 91)) hg (by simp [Value.ownBlock])); obtain ⟨P1, d1, hv, p1, RP⟩ := Kd.R_reads ho; simp only [List.nil_append] at hv ho p1; subst hv; have HK1 := mkA (blk_far (p := ⟨w1.heap.size, 1, none⟩) (blk_below HK.out hb) (show w.heap.size ≠ w1.heap.size by omega) (.slice P1 l1.length d1)); have LE := mkA (Kd.R_set ho HX0.out (by decide) 1 (.slice P1 l1.length d1)); have HB1 := mkA (z15 (j := 1) (v := (.slice P1 l1.length d1)) (z16 HB.out hb) hs0); have HX1 := mkA (blk_put HX0.out 1 (.slice P1 l1.length d1) rfl); obtain ⟨x0, x1, x2⟩ := box3 HX0.out; have f1 := z14 HX0.out 1; obtain ⟨i0, i1, i2⟩ := box3 (blk_below HK1.out (z10 (Below.refl _ _) (.cells #[] 94))); clear RP ho hg hat hb HX0 HK HB) | (at_builtin; refine Kd.R_append_rows k94 (w0 := (w2.setCell ⟨w1.heap.size, 1, none⟩ (.slice P1 l1.length d1))) ((w2.setCell ⟨w1.heap.size, 1, none⟩ (.slice P1 l1.length d1))).heap.size rfl (.tmp 34) (.tmp 36) 23 94 (.agg #[(.int .i64 0), (.int .i64 0), (.int .i64 0)]) 24 rfl Try.underlying23 info94 rfl (by decide) (by omega) (.slice (some ⟨w2.heap.size, 0, none⟩) 0 0) [] l2 A2 l2.length c2 (fun _ => True) (fun _ => False) rfl rfl (R_none (heap_set_alloc w2 _ _ _) (by rw [size_set]; exact Nat.le_refl _)) (Kd.C_below HR2.out (z10 HB1.out _)) (fun _ _ h => h) (fun _ h => h.elim) (fun _ _ => trivial) (z10 (Below.refl _ _) _) (Below.size (z10 (Below.refl _ _) _)) (by simp; omega) ?_; intro v2 w4 ho hb hg hat; obtain ⟨P2, d2, hv, p2, RP⟩ := Kd.R_reads ho; simp only [List.nil_append] at hv ho p2; subst hv; have HX2 := mkA (blk_below HX1.out hb); have HK2 := mkA (blk_far (p := ⟨w1.heap.size, 2, none⟩) (blk_below HK1.out hb) (show w.heap.size ≠ w1.heap.size by omega) (.slice P2 l2.length d2)); have LE2 := mkA (Kd.R_set (Kd.R_below LE.out hb) HX2.out (by decide) 2 (.slice P2 l2.length d2)); have LS2 := mkA (Kd.R_set ho HX2.out (by decide) 2 (.slice P2 l2.length d2)); have HB2 := mkA (z15 (j := 2) (v := (.slice P2 l2.length d2)) (z16 HB1.out hb) hs0); have HX3 := mkA (blk_put HX2.out 2 (.slice P2 l2.length d2) rfl); obtain ⟨y0, y1, y2⟩ := box3 HX2.out; have f2 := z14 HX2.out 2; have HSZ := mkA HB1.out.size; clear RP ho hg hat hb HX1 HK1 HB1 LE HX2 x0 x1 x2 f1 i0 i1 i2; obtain ⟨u0, u1, u2⟩ := box3 (blk_below HX3.out (z10 (Below.refl _ _) (.cells #[.int .i64 0, .int .i64 0] 46))); obtain ⟨g1, cap1, e1, hg1, hl1, cur, hcur⟩ := Kd.R_form LS2.out (by omega); simp only [Value.slice.injEq, true_and] at e1; obtain ⟨e1a, e1b⟩ := e1; subst e1a; subst e1b; have HG := mkA hcur; have HG1 := mkA (Nat.le_trans HSZ.out hg1); have HG2 := mkA hl1; clear hg1 hl1 hcur) | fail)
    have bz : Below (w4.setCell ⟨w1.heap.size, 2, none⟩ (.slice (some ⟨g1, 0, none⟩) l2.length d2)).heap.size (w4.setCell ⟨w1.heap.size, 2, none⟩ (.slice (some ⟨g1, 0, none⟩) l2.length d2)) ((w4.setCell ⟨w1.heap.size, 2, none⟩ (.slice (some ⟨g1, 0, none⟩) l2.length d2)).alloc (.cells #[.int .i64 0, .int .i64 0] 46)) := z10 (Below.refl _ _) _
    have HX5 := mkA (blk_below HX3.out bz)
    have HK5 := mkA (blk_below HK2.out bz)
    have LE5 := mkA (Kd.R_below LE2.out bz)
    have LS5 := mkA (Kd.R_below LS2.out bz)
    have HB5 := mkA (z16 HB2.out bz)
    have HG5 := mkA (blk_below HG.out bz)
    clear bz HX3 HK2 LE2 LS2 HB2 HG HG2 u0 u1 u2 y0 y1 y2 f2 k0 k1 k2 j0 j1 j2
    generalize ((w4.setCell ⟨w1.heap.size, 2, none⟩ (.slice (some ⟨g1, 0, none⟩) l2.length d2)).alloc (.cells #[.int .i64 0, .int .i64 0] 46)) = w5 at HX5 HK5 LE5 LS5 HB5 HG5 ⊢
    obtain ⟨ad, e2, v0, v1, v2⟩ := at_T94 (Kd.R_reads' LS5.out).2.2 (j : Int) (by omega) (by omega)
    cases e2
    obtain ⟨m0, m1, m2, m3⟩ := HS.out j hj2
    have y0 : w5.cell? ⟨g1, j * 3 + 1, none⟩ = some (.int .i64 (rd_T94 l2 (j : Int)).f1.f0) := by rw [z43] at v1; exact v1
    have y1 : w5.cell? ⟨g1, j * 3 + 1 + 1, none⟩ = some (.int .i64 (rd_T94 l2 (j : Int)).f1.f1) := by rw [z43] at v2; exact v2
    clear v0 v1 v2
    have f0 := z14 HG5.out (j * 3 + 1)
    have f1 := z14 HG5.out (j * 3 + 1 + 1)
    go_region_with (fail)
    all_goals
      rw [d0_f b hb0 hb1, d1_f b hb0 hb1, wrap_in ((rd_T94 l2 (j : Int)).f1.f0 - b % 2) (by omega) (by omega), wrap_in ((rd_T94 l2 (j : Int)).f1.f1 + b / 2 % 2) (by omega) (by omega)]
      have KJ : l1.length + j - l1.length = j := by omega
      have hgw : w.heap.size ≤ g1 := by have := HG1.out; omega
      have ne1 : w1.heap.size ≠ g1 := blk_ne HX5.out HG5.out (by decide)
      have ne2 : w.heap.size ≠ g1 := blk_ne HK5.out HG5.out (by decide)
      have HGN := z40 (blk_put (blk_put HG5.out ((j) * 3 + 1) (.int .i64 ((rd_T94 l2 (j : Int)).f1.f0 - b % 2)) rfl) ((j) * 3 + 1 + 1) (.int .i64 ((rd_T94 l2 (j : Int)).f1.f1 + b / 2 % 2)) rfl)
      have HXN := mkA (z40 (blk_far (p := ⟨g1, (j) * 3 + 1 + 1, none⟩) (blk_far (p := ⟨g1, (j) * 3 + 1, none⟩) HX5.out ne1 (.int .i64 ((rd_T94 l2 (j : Int)).f1.f0 - b % 2))) ne1 (.int .i64 ((rd_T94 l2 (j : Int)).f1.f1 + b / 2 % 2))))
      have HKN := mkA (z40 (blk_far (p := ⟨g1, (j) * 3 + 1 + 1, none⟩) (blk_far (p := ⟨g1, (j) * 3 + 1, none⟩) HK5.out ne2 (.int .i64 ((rd_T94 l2 (j : Int)).f1.f0 - b % 2))) ne2 (.int .i64 ((rd_T94 l2 (j : Int)).f1.f1 + b / 2 % 2))))
      have HBN := mkA (z13 (z15 (j := (j) * 3 + 1 + 1) (v := (.int .i64 ((rd_T94 l2 (j : Int)).f1.f1 + b / 2 % 2))) (z15 (j := (j) * 3 + 1) (v := (.int .i64 ((rd_T94 l2 (j : Int)).f1.f0 - b % 2))) HB5.out hgw) hgw))
      have CS := mkA (wideS_C (Kd.R_reads' LS5.out).2.2 HG5.out (j) hj2 (b % 2) (b / 2 % 2) HGN)
      have CE := mkA (Kd.R_reads' (Kd.R_drew (Kd.R_set (Kd.R_set LE5.out HG5.out (by decide) ((j) * 3 + 1) (.int .i64 ((rd_T94 l2 (j : Int)).f1.f0 - b % 2))) (blk_put HG5.out ((j) * 3 + 1) (.int .i64 ((rd_T94 l2 (j : Int)).f1.f0 - b % 2)) rfl) (by decide) ((j) * 3 + 1 + 1) (.int .i64 ((rd_T94 l2 (j : Int)).f1.f1 + b / 2 % 2))))).2.2
      have hes := HES.out
      rw [if_neg (by omega), KJ] at hes
      obtain ⟨he, hs⟩ := hes
      rw [← hs] at CS
      have CE2 : Aside0 (Kd.C k91 ((w5.setCell ⟨g1, (j) * 3 + 1, none⟩ (.int .i64 ((rd_T94 l2 (j : Int)).f1.f0 - b % 2))).setCell ⟨g1, (j) * 3 + 1 + 1, none⟩ (.int .i64 ((rd_T94 l2 (j : Int)).f1.f1 + b / 2 % 2))).drew P1 l1.length E) := by rw [he]; exact CE
      clear CE
      have CE := CE2
      clear CE2
      clear he hs HGN ne1 ne2 hgw HX5 HK5 LE5 LS5 HB5 HG5 HG1 y0 y1 f0 f1 m0 m1 m2 m3
      generalize ((w5.setCell ⟨g1, (j) * 3 + 1, none⟩ (.int .i64 ((rd_T94 l2 (j : Int)).f1.f0 - b % 2))).setCell ⟨g1, (j) * 3 + 1 + 1, none⟩ (.int .i64 ((rd_T94 l2 (j : Int)).f1.f1 + b / 2 % 2))).drew = w6 at HXN HKN HBN CE CS ⊢
      have hel : E.length = l1.length := CE.out.1
      have hsl : S.length = l2.length := CS.out.1
      have HZ := mkA (slate_ok n P1 l1.length d1 E (some ⟨g1, 0, none⟩) l2.length d2 S w6 CE.out p1 CS.out p2 (by omega) (by omega))
      rw [E1.out, E2.out] at HZ
      clear hel hsl E1 E2
      obtain ⟨x0, x1, x2⟩ := box3 HXN.out
      go_wp2_with fail
      refine (ready_at n P1 l1.length d1 E (some ⟨g1, 0, none⟩) l2.length d2 S r _ CE.out p1 CS.out p2 G45.out).mono ?_
      rintro e w7 ⟨rfl, hb⟩
      replace HXN := mkA (blk_below HXN.out hb)
      replace HKN := mkA (blk_below HKN.out hb)
      replace HBN := mkA (z16 HBN.out hb)
      replace CE := mkA (Kd.C_below CE.out hb)
      replace CS := mkA (Kd.C_below CS.out hb)
      replace HZ := mkA (SlateOk.below HZ.out hb)
      clear hb
      clear x0 x1 x2
      cases r with
      | false =>
        go_wp2_with fail
        refine (pl_awake.calls true _ rfl).mono ?_
        rintro e w8 ⟨rfl, hb⟩
        replace HXN := mkA (blk_below HXN.out hb)
        replace HKN := mkA (blk_below HKN.out hb)
        replace HBN := mkA (z16 HBN.out hb)
        replace CE := mkA (Kd.C_below CE.out hb)
        replace CS := mkA (Kd.C_below CS.out hb)
        replace HZ := mkA (SlateOk.below HZ.out hb)
        clear hb
        go_wp2
        go_ret
        exact ⟨rfl, HBN.out⟩
      | true =>
        obtain ⟨t1, t2, t3⟩ := G40.out rfl
        have T1 := mkA t1
        have T3 := mkA t3
        clear t1 t3
        obtain ⟨k0, k1, k2⟩ := box3 HKN.out
        go_wp2_with fail
        refine (HX.out _ HBN.out).mono ?_
        rintro e w8 ⟨B1, dd1, B2, dd2, rfl, h1, h2, h3, h4, hb⟩
        replace HXN := mkA (blk_below HXN.out hb)
        replace HKN := mkA (blk_below HKN.out hb)
        replace HBN := mkA (z16 HBN.out hb)
        replace CE := mkA (Kd.C_below CE.out hb)
        replace CS := mkA (Kd.C_below CS.out hb)
        replace HZ := mkA (SlateOk.below HZ.out hb)
        clear hb
        have Q1 := mkA h1
        clear h1
        have Q2 := mkA h3
        clear h3
        clear k0 k1 k2
        go_wp2_with fail
        refine (soap_Leave.calls n B1 dd1 X1 B2 dd2 X2 _ _ _ Q1.out h2 Q2.out h4 F40.out).mono ?_
        rintro e w9 ⟨vo, rfl, hl, hb⟩
        replace HXN := mkA (blk_below HXN.out hb)
        replace HKN := mkA (blk_below HKN.out hb)
        replace HBN := mkA (z16 HBN.out hb)
        replace CE := mkA (Kd.C_below CE.out hb)
        replace CS := mkA (Kd.C_below CS.out hb)
        replace HZ := mkA (SlateOk.below HZ.out hb)
        clear hb
        obtain ⟨PO, dO, rfl, qO, RO⟩ := Kd.R_reads hl
        clear hl RO qO Q1 Q2 h2 h4
        obtain ⟨k0, k1, k2⟩ := box3 HXN.out
        go_wp2_with fail
        refine (HZ.out _ (Below.refl _ _)).mono ?_
        rintro e w10 ⟨B1, dd1, B2, dd2, rfl, h1, h2, h3, h4, hb⟩
        replace HXN := mkA (blk_below HXN.out hb)
        replace HKN := mkA (blk_below HKN.out hb)
        replace HBN := mkA (z16 HBN.out hb)
        replace CE := mkA (Kd.C_below CE.out hb)
        replace CS := mkA (Kd.C_below CS.out hb)
        replace HZ := mkA (SlateOk.below HZ.out hb)
        clear hb
        have Q1 := mkA h1
        clear h1
        have Q2 := mkA h3
        clear h3
        clear k0 k1 k2
        go_wp2_with fail
        refine (soap_Leave.calls n B1 dd1 Y1 B2 dd2 Y2 _ _ _ Q1.out h2 Q2.out h4 T1.out).mono ?_
        rintro e w11 ⟨vo2, rfl, hl, hb⟩
        replace HXN := mkA (blk_below HXN.out hb)
        replace HKN := mkA (blk_below HKN.out hb)
        replace HBN := mkA (z16 HBN.out hb)
        replace CE := mkA (Kd.C_below CE.out hb)
        replace CS := mkA (Kd.C_below CS.out hb)
        replace HZ := mkA (SlateOk.below HZ.out hb)
        clear hb
        obtain ⟨PO2, dO2, rfl, qO2, RO2⟩ := Kd.R_reads hl
        clear hl RO2 qO2 Q1 Q2 h2 h4 HX HZ F40 T1
        have w9 : decide ((o.length : Int) < (o2.length : Int)) = false := decide_eq_false (by omega)
        have w9' : decide (o.length < o2.length) = false := decide_eq_false (by omega)
        by_cases ho : o.length = 0
        · have v9 : decide ((0 : Int) < (o.length : Int)) = false := decide_eq_false (by omega)
          have v9' : decide (0 < o.length) = false := decide_eq_false (by omega)
          have T4 := mkA (T3.out ho)
          clear T3 ho t2
          obtain ⟨k0, k1, k2⟩ := box3 HKN.out
          obtain ⟨x0, x1, x2⟩ := box3 HXN.out
          go_wp2_with fail
          refine (closer_at T4.out A1 l1.length c1 A2 l2.length c2 P1 l1.length d1 (some ⟨g1, 0, none⟩) l2.length d2 _ (Kd.C_below HR1.out HBN.out) hc1 (Kd.C_below HR2.out HBN.out) hc2 CE.out p1 CS.out p2).mono ?_
          rintro e w12 ⟨rfl, hb⟩
          replace HXN := mkA (blk_below HXN.out hb)
          replace HKN := mkA (blk_below HKN.out hb)
          replace HBN := mkA (z16 HBN.out hb)
          replace CE := mkA (Kd.C_below CE.out hb)
          replace CS := mkA (Kd.C_below CS.out hb)
          clear hb
          clear k0 k1 k2 x0 x1 x2
          go_wp2_with fail
          refine (pl_awake.calls true _ rfl).mono ?_
          rintro e w13 ⟨rfl, hb⟩
          replace HXN := mkA (blk_below HXN.out hb)
          replace HKN := mkA (blk_below HKN.out hb)
          replace HBN := mkA (z16 HBN.out hb)
          replace CE := mkA (Kd.C_below CE.out hb)
          replace CS := mkA (Kd.C_below CS.out hb)
          clear hb
          go_wp2
          go_ret
          exact ⟨rfl, HBN.out⟩
        · have v9 : decide ((0 : Int) < (o.length : Int)) = true := decide_eq_true (by omega)
          have v9' : decide (0 < o.length) = true := decide_eq_true (by omega)
          clear T3 ho t2
          go_wp2_with fail
          refine (pl_awake.calls true _ rfl).mono ?_
          rintro e w12 ⟨rfl, hb⟩
          replace HXN := mkA (blk_below HXN.out hb)
          replace HKN := mkA (blk_below HKN.out hb)
          replace HBN := mkA (z16 HBN.out hb)
          replace CE := mkA (Kd.C_below CE.out hb)
          replace CS := mkA (Kd.C_below CS.out hb)
          clear hb
          go_wp2
          go_ret
          exact ⟨rfl, HBN.out⟩
end
end Go.Proofs.Ytncaadckehikpaa.Q
