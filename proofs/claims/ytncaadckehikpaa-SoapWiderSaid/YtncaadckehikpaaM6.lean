/- A part of the proof: contracts of functions and plain facts (HOwed, HPlayed, HIter0). No condition. -/
import Derived.BigRegion
import Derived.Test.YtncaadckehikpaaM5
import Derived.Test.YtncaadckehikpaaM0
namespace Go.Proofs.Ytncaadckehikpaa.Q
open Go.RowKit Go.Proofs.YtncaadckehikpaaW.PrintWords Go.Proofs.YtncaadckehikpaaW.PrintLast Go.Proofs.YtncaadckehikpaaW.PrintMore
set_option linter.unusedVariables false
set_option linter.unusedSimpArgs false
/-- A number of a list of six is changed. -/
def upd (v : List Int) (i x : Int) : List Int := v.set i.toNat x
/-- What all women are owed with the ounces of the first n entries. -/
def owedTo (l : List S122) (os : List Int) : Nat → List Int
  | 0 => [0, 0, 0, 0, 0, 0]
  | n + 1 =>
    let v := owedTo l os n
    let e := rd_T122 l n
    let v1 := upd v e.f0 (rd v e.f0 + rd os n)
    upd v1 e.f1 (rd v1 e.f1 - rd os n)
def owedL (l : List S122) (os : List Int) : List Int := owedTo l os l.length
theorem upd_length (v : List Int) (i x : Int) : (upd v i x).length = v.length := by simp [upd]
theorem rd_upd (v : List Int) (i x j : Int) (h0 : 0 ≤ i) (h : i < v.length) (hj : 0 ≤ j) : rd (upd v i x) j = if j = i then x else rd v j := by
  unfold rd upd
  by_cases e : j = i
  · subst e
    simp [List.getD, show j.toNat < v.length by omega]
  · rw [if_neg e]
    have : i.toNat ≠ j.toNat := by omega
    simp [List.getD, List.getElem?_set_ne this]
theorem z38 (l : List S122) (os : List Int) (n : Nat) : (owedTo l os n).length = 6 := by
  induction n with
  | zero => rfl
  | succ n ih => simp only [owedTo, upd_length, ih]
theorem rd_upd_bd (v : List Int) (i x b : Int) (hb : ∀ j, -b ≤ rd v j ∧ rd v j ≤ b) (hx : -b ≤ x ∧ x ≤ b) : ∀ j, -b ≤ rd (upd v i x) j ∧ rd (upd v i x) j ≤ b := by
  intro j
  have h0 := hb j
  unfold rd upd at *
  simp only [List.getD, List.getElem?_set]
  simp only [List.getD] at h0
  split
  · split
    · exact hx
    · simp; omega
  · exact h0
theorem owedTo_bd (l : List S122) (os : List Int) (ho : ∀ i : Int, 0 ≤ i → i < l.length → 0 ≤ rd os i ∧ rd os i ≤ 40) : ∀ n : Nat, n ≤ l.length → ∀ j, -(80 * (n : Int)) ≤ rd (owedTo l os n) j ∧ rd (owedTo l os n) j ≤ 80 * (n : Int) := by
  intro n
  induction n with
  | zero =>
    intro _ j
    have : rd (owedTo l os 0) j = 0 := by
      unfold rd owedTo
      rcases j.toNat with _ | _ | _ | _ | _ | _ | m <;> simp [List.getD]
    omega
  | succ n ih =>
    intro hn
    have h1 := ih (by omega)
    have h2 := ho n (by omega) (by omega)
    simp only [owedTo]
    have h3 := rd_upd_bd (owedTo l os n) (rd_T122 l n).f0 (rd (owedTo l os n) (rd_T122 l n).f0 + rd os n) (80 * (n : Int) + 40) (fun j => by have := h1 j; omega) (by have := h1 (rd_T122 l n).f0; omega)
    exact rd_upd_bd _ _ _ (80 * ((n + 1 : Nat) : Int)) (fun j => by have := h3 j; omega) (by have := h3 (rd_T122 l n).f1; omega)
/-- What all women are owed, as a value. -/
def aggV (v : List Int) : Value := .agg #[.int .i64 (rd v 0), .int .i64 (rd v 1), .int .i64 (rd v 2), .int .i64 (rd v 3), .int .i64 (rd v 4), .int .i64 (rd v 5)]
/-- A block of whole numbers: its cells. -/
theorem blk_int {w : World} {g : Nat} {e : TypeId} (v : List Int) (h : w.heap[g]? = some (.cells (v.map (Value.int .i64)).toArray e (0, 0))) (i : Int) (h0 : 0 ≤ i) (hi : i < v.length) :
    w.cell? ⟨g, i.toNat, none⟩ = some (.int .i64 (rd v i)) ∧ w.frozen? ⟨g, i.toNat, none⟩ = false := by
  refine ⟨?_, z14 h _⟩
  rw [z12 h]
  simp [rd, List.getD, show i.toNat < v.length by omega]
/-- .. and a store into it. -/
theorem blk_set {w : World} {g : Nat} {e : TypeId} (v : List Int) (h : w.heap[g]? = some (.cells (v.map (Value.int .i64)).toArray e (0, 0))) (i x : Int) :
    (w.setCell ⟨g, i.toNat, none⟩ (.int .i64 x)).heap[g]? = some (.cells ((upd v i x).map (Value.int .i64)).toArray e (0, 0)) := by
  simp only [World.setCell, Array.getElem?_modify, h]
  simp [upd, List.map_set]
set_option maxHeartbeats 2000000 in
set_option maxRecDepth 100000 in
theorem owed_core (n : Int) (A1 : Option Addr) (c1 : Nat) (l1 : List S122) (A2 : Option Addr) (c2 : Nat) (l2 : List S124) (A3 : Option Addr) (c3 : Nat) (os : List Int) (w : World)
    (hr1 : Kd.C k122 w A1 l1.length l1) (hc1 : l1.length ≤ c1) (hr3 : Kd.C (Kd.int .i64) w A3 os.length os) (hc3 : os.length ≤ c3)
    (hlen : os.length = l1.length) (h6 : l1.length ≤ 6) (hf : ∀ i : Int, 0 ≤ i → i < l1.length → 0 ≤ (rd_T122 l1 i).f0 ∧ (rd_T122 l1 i).f0 < 6 ∧ 0 ≤ (rd_T122 l1 i).f1 ∧ (rd_T122 l1 i).f1 < 6 ∧ 0 ≤ rd os i ∧ rd os i ≤ 40) :
    Calls Try.prog 108 #[.agg #[.int .i64 n, .slice A1 l1.length c1, .slice A2 l2.length c2], .slice A3 os.length c3] w fun e w' => e = .returned (aggV (owedL l1 os)) ∧ Below w.heap.size w w' := by
  have hu35 := Try.underlying35
  have hu122 := Try.underlying122
  have hu128 := Try.underlying128
  have HR1 := mkA hr1
  have HR3 := mkA hr3
  have HC1 := mkA hc1
  have HC3 := mkA hc3
  have HF := mkA hf
  have HL := mkA hlen
  clear hr1 hr3 hc1 hc3 hf hlen
  go_enter Try.func108, Try.ntmps108
  go_wp2
  have hb0 : Below w.heap.size w ((w.alloc (.cells #[.int .i64 n, .slice A1 l1.length c1, .slice A2 l2.length c2] 35)).alloc (.cells #[.int .i64 0, .int .i64 0, .int .i64 0, .int .i64 0, .int .i64 0, .int .i64 0] 128)) := z10 (z10 (Below.refl _ _) _) _
  have hk0 : ((w.alloc (.cells #[.int .i64 n, .slice A1 l1.length c1, .slice A2 l2.length c2] 35)).alloc (.cells #[.int .i64 0, .int .i64 0, .int .i64 0, .int .i64 0, .int .i64 0, .int .i64 0] 128)).heap[w.heap.size + 1]? = some (.cells (([0, 0, 0, 0, 0, 0] : List Int).map (Value.int .i64)).toArray 128 (0, 0)) := by
    have := z19 (w.alloc (.cells #[.int .i64 n, .slice A1 l1.length c1, .slice A2 l2.length c2] 35)) (.cells #[.int .i64 0, .int .i64 0, .int .i64 0, .int .i64 0, .int .i64 0, .int .i64 0] 128)
    simpa using this
  have HB0 := mkA hb0
  have HK0 := mkA hk0
  clear hb0 hk0
  go_loopw [10] (fun i wr => ∃ k : Int, 0 ≤ k ∧ k ≤ l1.length ∧ i = .int .i64 k ∧ Aside0 (wr.heap[w.heap.size + 1]? = some (.cells ((owedTo l1 os k.toNat).map (Value.int .i64)).toArray 128 (0, 0))) ∧ Below w.heap.size w wr) (fun i _ => l1.length - (intOf i).toNat)
  case atStart => exact ⟨0, by omega, by omega, rfl, HK0, HB0.out⟩
  case round =>
    clear HB0 HK0
    obtain ⟨k, hk1, hk2, rfl, HK, hb⟩ := hrel
    have HB := mkA hb
    clear hb
    by_cases hlt : k < l1.length
    · have c3b0 : decide (k < (l1.length : Int)) = true := decide_eq_true hlt
      obtain ⟨ad1, e1, hx1, hx2, hx3, hx4⟩ := at_T122 (Kd.C_below HR1.out HB.out) k (by omega) hlt
      cases e1
      obtain ⟨z1, z2, z3, z4, z5, z6⟩ := HF.out k hk1 hlt
      go_wp2
      have hb3 : Below wr.heap.size wr (wr.alloc (.cells #[.int .i64 (rd_T122 l1 k).f0, .int .i64 (rd_T122 l1 k).f1, .int .i64 (rd_T122 l1 k).f2.f0, .int .i64 (rd_T122 l1 k).f2.f1] 122)) := z10 (Below.refl _ _) _
      have hk3 : (wr.alloc (.cells #[.int .i64 (rd_T122 l1 k).f0, .int .i64 (rd_T122 l1 k).f1, .int .i64 (rd_T122 l1 k).f2.f0, .int .i64 (rd_T122 l1 k).f2.f1] 122)).heap[wr.heap.size]? = some (.cells #[.int .i64 (rd_T122 l1 k).f0, .int .i64 (rd_T122 l1 k).f1, .int .i64 (rd_T122 l1 k).f2.f0, .int .i64 (rd_T122 l1 k).f2.f1] 122 (0, 0)) := z19 wr _
      generalize hw3 : wr.alloc (.cells #[.int .i64 (rd_T122 l1 k).f0, .int .i64 (rd_T122 l1 k).f1, .int .i64 (rd_T122 l1 k).f2.f0, .int .i64 (rd_T122 l1 k).f2.f1] 122) = w3 at hb3 hk3 ⊢
      clear hw3 hx1 hx2 hx3 hx4
      have HB3 := mkA (z16 HB.out hb3)
      have HV := mkA (blk_below HK.out hb3)
      have HE := mkA hk3
      have hne : wr.heap.size ≠ w.heap.size + 1 := by have := z22 HK.out; omega
      clear hb3 hk3
      generalize hv : owedTo l1 os k.toNat = v at HV
      have hvl : v.length = 6 := by rw [← hv]; exact z38 _ _ _
      have y0 : w3.cell? ⟨wr.heap.size, 0, none⟩ = some (.int .i64 (rd_T122 l1 k).f0) := (z12 HE.out 0).trans rfl
      have y1 : w3.cell? ⟨wr.heap.size, 1, none⟩ = some (.int .i64 (rd_T122 l1 k).f1) := (z12 HE.out 1).trans rfl
      obtain ⟨ad3, e3, y2⟩ := Kd.at_int (Kd.C_below HR3.out HB3.out) k hk1 (by rw [HL.out]; exact hlt)
      cases e3
      obtain ⟨y3, y4⟩ := blk_int v HV.out (rd_T122 l1 k).f0 z1 (by omega)
      have hbd := owedTo_bd l1 os (fun i h0 h => (HF.out i h0 h).2.2.2.2) k.toNat (by omega)
      rw [hv] at hbd
      have hbd1 := hbd (rd_T122 l1 k).f0
      have hbd2 := rd_upd_bd v (rd_T122 l1 k).f0 (rd v (rd_T122 l1 k).f0 + rd os k) 520 (fun j => by have := hbd j; omega) (by omega) (rd_T122 l1 k).f1
      have z8 : -480 ≤ rd v (rd_T122 l1 k).f0 := by omega
      have z9 : rd v (rd_T122 l1 k).f0 ≤ 480 := by omega
      have HBD := mkA hbd2
      clear hbd hbd1 hbd2
      have hst : owedTo l1 os (k + 1).toNat = upd (upd v (rd_T122 l1 k).f0 (rd v (rd_T122 l1 k).f0 + rd os k)) (rd_T122 l1 k).f1 (rd (upd v (rd_T122 l1 k).f0 (rd v (rd_T122 l1 k).f0 + rd os k)) (rd_T122 l1 k).f1 - rd os k) := by
        rw [show (k + 1).toNat = k.toNat + 1 by omega]
        simp only [owedTo, hv]
        rw [show ((k.toNat : Nat) : Int) = k by omega]
      have HST := mkA hst
      clear hv hst
      generalize rd_T122 l1 k = en at *
      have z7 : k < (os.length : Int) := by rw [HL.out]; exact hlt
      go_region
      go_wp2
      have hb4 : Below w.heap.size w ((w3.setCell ⟨w.heap.size + 1, en.f0.toNat, none⟩ (.int .i64 (rd v en.f0 + rd os k))).drew) := z13 (z15 HB3.out (by omega))
      have hk4 : ((w3.setCell ⟨w.heap.size + 1, en.f0.toNat, none⟩ (.int .i64 (rd v en.f0 + rd os k))).drew).heap[w.heap.size + 1]? = some (.cells ((upd v en.f0 (rd v en.f0 + rd os k)).map (Value.int .i64)).toArray 128 (0, 0)) := blk_set v HV.out en.f0 _
      have hk5 : ((w3.setCell ⟨w.heap.size + 1, en.f0.toNat, none⟩ (.int .i64 (rd v en.f0 + rd os k))).drew).heap[wr.heap.size]? = some (.cells #[.int .i64 en.f0, .int .i64 en.f1, .int .i64 en.f2.f0, .int .i64 en.f2.f1] 122 (0, 0)) := (Below.heap_setCell w3 _ _ _ hne).trans HE.out
      generalize (w3.setCell ⟨w.heap.size + 1, en.f0.toNat, none⟩ (.int .i64 (rd v en.f0 + rd os k))).drew = w4 at hb4 hk4 hk5 ⊢
      clear y0 y1 y2 y3 y4
      have HB4 := mkA hb4
      have HV4 := mkA hk4
      have HE4 := mkA hk5
      clear hb4 hk4 hk5
      have hz := HBD.out
      generalize hv1 : upd v en.f0 (rd v en.f0 + rd os k) = v1 at HV4 HST hz
      have hvl1 : v1.length = 6 := by rw [← hv1, upd_length]; exact hvl
      clear hv1
      have y1 : w4.cell? ⟨wr.heap.size, 1, none⟩ = some (.int .i64 en.f1) := (z12 HE4.out 1).trans rfl
      obtain ⟨ad3', e3', y2⟩ := Kd.at_int (Kd.C_below HR3.out HB4.out) k hk1 z7
      obtain rfl : ad3 = ad3' := Option.some.inj e3'
      clear e3'
      obtain ⟨y3, y4⟩ := blk_int v1 HV4.out en.f1 z3 (by omega)
      obtain ⟨q1, q2⟩ := hz
      go_region
      go_wp2
      go_roundw
      case rel => exact ⟨k + 1, by omega, by omega, by go_num, ⟨by rw [HST.out]; exact blk_set v1 HV4.out en.f1 _⟩, z13 (z15 HB4.out (by omega))⟩
      case measure => simp [intOf]; omega
    · have c3b0 : decide (k < (l1.length : Int)) = false := decide_eq_false hlt
      obtain rfl : k = l1.length := by omega
      generalize hv : owedTo l1 os (l1.length : Int).toNat = v at HK
      have hvl : v.length = 6 := by rw [← hv]; exact z38 _ _ _
      have hv' : v = owedL l1 os := by rw [← hv]; rfl
      have HV := mkA hv'
      clear hv hv'
      have x0 := (blk_int v HK.out 0 (by omega) (by omega)).1
      have x1 := (blk_int v HK.out 1 (by omega) (by omega)).1
      have x2 := (blk_int v HK.out 2 (by omega) (by omega)).1
      have x3 := (blk_int v HK.out 3 (by omega) (by omega)).1
      have x4 := (blk_int v HK.out 4 (by omega) (by omega)).1
      have x5 := (blk_int v HK.out 5 (by omega) (by omega)).1
      have f0 := fun i : Nat => z14 HK.out i
      simp only [show (0 : Int).toNat = 0 from rfl, show (1 : Int).toNat = 1 from rfl, show (2 : Int).toNat = 2 from rfl, show (3 : Int).toNat = 3 from rfl, show (4 : Int).toNat = 4 from rfl, show (5 : Int).toNat = 5 from rfl] at x0 x1 x2 x3 x4 x5
      have s0 := z26 x0
      have s1 := z26 x1
      have s2 := z26 x2
      have s3 := z26 x3
      have s4 := z26 x4
      have s5 := z26 x5
      go_wp2
      refine bodyPost_ret (v := aggV v) (by simp [results, Try.results108, go_sem, aggV, x0, x1, x2, x3, x4, x5]) rfl ⟨by rw [HV.out], HB.out⟩
end Go.Proofs.Ytncaadckehikpaa.Q
namespace Go.Proofs.Ytncaadckehikpaa.Q
open Go.RowKit Go.Proofs.YtncaadckehikpaaW.PrintWords Go.Proofs.YtncaadckehikpaaW.PrintLast Go.Proofs.YtncaadckehikpaaW.PrintMore
set_option linter.unusedVariables false
set_option linter.unusedSimpArgs false
def z47 (l : List S122) (os : List Int) (i : Nat) : Prop := (rd_T122 l i).f2.f0 ≤ rd os i ∧ rd os i ≤ (rd_T122 l i).f2.f1
instance (l : List S122) (os : List Int) (i : Nat) : Decidable (z47 l os i) := by unfold z47; infer_instance
/-- Whether a list is ounces of the slate. -/
def areB (l : List S122) (os : List Int) : Bool := decide (os.length = l.length ∧ ∀ i : Nat, i < l.length → z47 l os i)
theorem are_l0 (n : Int) (l1 : List S122) (l2 : List S124) (os : List Int) (hlen : os.length = l1.length) (hm : (l1.length : Int) ≤ 140737488355328) (d : Nat) : ∀ (k : Nat) (i : Int), 0 ≤ i → i + d = os.length → d < k →
    ∃ b, soap_Slate_are.l0 k os (os.length : Int) i n l1 l2 = some b ∧ (b = true ↔ ∀ j : Nat, i ≤ j → j < l1.length → z47 l1 os j) := by
  induction d with
  | zero =>
    intro k i h0 hi hk
    obtain ⟨k, rfl⟩ : ∃ m, k = m + 1 := ⟨k - 1, by omega⟩
    simp only [soap_Slate_are.l0]
    rw [if_neg (by omega)]
    exact ⟨true, rfl, fun _ j h1 h2 => by omega, fun _ => rfl⟩
  | succ d ih =>
    intro k i h0 hi hk
    obtain ⟨k, rfl⟩ : ∃ m, k = m + 1 := ⟨k - 1, by omega⟩
    obtain ⟨b, hih, hb⟩ := ih k (i + 1) (by omega) (by omega) (by omega)
    simp only [soap_Slate_are.l0]
    rw [if_pos (by omega), if_pos h0]
    repeat rw [if_pos (by omega)]
    have hw : wrap64 (i + 1) = i + 1 := by unfold wrap64; omega
    rw [hw, hih]
    simp only [soap_Range_has.f, soap_within.f]
    have key : (∀ j : Nat, i ≤ j → j < l1.length → z47 l1 os j) ↔ (z47 l1 os i.toNat ∧ ∀ j : Nat, i + 1 ≤ j → j < l1.length → z47 l1 os j) := by
      constructor
      · intro h
        exact ⟨h i.toNat (by omega) (by omega), fun j h1 h2 => h j (by omega) h2⟩
      · rintro ⟨h1, h2⟩ j h3 h4
        by_cases e : (j : Int) = i
        · obtain rfl : j = i.toNat := by omega
          exact h1
        · exact h2 j (by omega) h4
    have hin : z47 l1 os i.toNat ↔ (rd_T122 l1 i).f2.f0 ≤ rd os i ∧ rd os i ≤ (rd_T122 l1 i).f2.f1 := by
      unfold z47
      rw [show ((i.toNat : Nat) : Int) = i by omega]
    rw [key, hin, ← hb]
    by_cases h1 : (rd_T122 l1 i).f2.f0 ≤ rd os i
    · by_cases h2 : rd os i ≤ (rd_T122 l1 i).f2.f1
      · simp [h1, h2]
      · simp [h1, h2]
    · simp [h1]
theorem are_f (n : Int) (l1 : List S122) (l2 : List S124) (os : List Int) (hm : (l1.length : Int) ≤ 140737488355328) : soap_Slate_are.f (l1.length + 1) n l1 l2 os = some (areB l1 os) := by
  unfold soap_Slate_are.f
  by_cases h : os.length = l1.length
  · obtain ⟨b, h1, h2⟩ := are_l0 n l1 l2 os h hm l1.length (l1.length + 1) 0 (by omega) (by omega) (by omega)
    rw [if_pos (by omega), h1]
    congr 1
    unfold areB
    rw [Bool.eq_iff_iff, h2, decide_eq_true_iff]
    exact ⟨fun h2 => ⟨h, fun j hj => h2 j (by omega) hj⟩, fun h2 j _ hj => h2.2 j hj⟩
  · rw [if_neg (by omega)]
    unfold areB
    simp [h]
theorem z28 {n : Int} {l1 : List S122} {l2 : List S124} (h : checkS n l1 l2 = 0) : 0 ≤ n ∧ n ≤ 6 ∧ l1.length ≤ 6 ∧ l2.length ≤ 5 ∧ l1.all (entryB n) = true ∧ l2.all (sayingB n) = true ∧ manyS l1 ≤ 2000 := by
  unfold checkS at h
  split at h
  · cases h
  split at h
  · cases h
  split at h
  · cases h
  rename_i h1 h2 h3
  simp only [not_or, Bool.not_eq_false] at h1 h2
  refine ⟨by omega, by omega, by omega, by omega, h2.2.1, h2.2.2, by omega⟩
theorem pairB_in {n a b : Int} (h6 : n ≤ 6) (h : pairB n a b = true) : 0 ≤ a ∧ a < n ∧ 0 ≤ b ∧ b < n ∧ a ≠ b := by
  simp only [pairB, womanB, Bool.and_eq_true, decide_eq_true_eq, bne_iff_ne, ne_eq] at h
  omega
theorem entry_in {n : Int} {l1 : List S122} {l2 : List S124} (h : checkS n l1 l2 = 0) (i : Int) (h0 : 0 ≤ i) (hi : i < l1.length) :
    0 ≤ (rd_T122 l1 i).f0 ∧ (rd_T122 l1 i).f0 < n ∧ 0 ≤ (rd_T122 l1 i).f1 ∧ (rd_T122 l1 i).f1 < n ∧ (rd_T122 l1 i).f0 ≠ (rd_T122 l1 i).f1 ∧ 0 ≤ (rd_T122 l1 i).f2.f0 ∧ (rd_T122 l1 i).f2.f0 ≤ (rd_T122 l1 i).f2.f1 ∧ (rd_T122 l1 i).f2.f1 ≤ 40 := by
  obtain ⟨z0, z1, z2, z3, z4, z5, z6⟩ := z28 h
  have he := List.all_eq_true.1 z4 _ (rd_T122_mem l1 i h0 hi)
  have hs := entryB_size n _ he
  simp only [entryB, Bool.and_eq_true] at he
  have hp := pairB_in z1 he.1
  omega
/-- What all women are owed with ounces; zeros with an error. -/
def playV (n : Int) (l1 : List S122) (l2 : List S124) (os : List Int) : List Int := if checkS n l1 l2 = 0 ∧ areB l1 os = true then owedL l1 os else [0, 0, 0, 0, 0, 0]
def playE (n : Int) (l1 : List S122) (l2 : List S124) (os : List Int) : Int := if checkS n l1 l2 ≠ 0 then checkS n l1 l2 else if areB l1 os = true then 0 else 2
/-- The six cells of an array's block. -/
theorem blk6 {W : World} {g : Nat} {t : TypeId} {a0 a1 a2 a3 a4 a5 : Value} (h : W.heap[g]? = some (.cells #[a0, a1, a2, a3, a4, a5] t (0, 0))) :
    W.cell? ⟨g, 0, none⟩ = some a0 ∧ W.cell? ⟨g, 1, none⟩ = some a1 ∧ W.cell? ⟨g, 2, none⟩ = some a2 ∧ W.cell? ⟨g, 3, none⟩ = some a3 ∧ W.cell? ⟨g, 4, none⟩ = some a4 ∧ W.cell? ⟨g, 5, none⟩ = some a5 ∧ ∀ i, W.frozen? ⟨g, i, none⟩ = false :=
  ⟨(z12 h 0).trans rfl, (z12 h 1).trans rfl, (z12 h 2).trans rfl, (z12 h 3).trans rfl, (z12 h 4).trans rfl, (z12 h 5).trans rfl, fun i => z14 h i⟩
set_option maxHeartbeats 2000000 in
set_option maxRecDepth 100000 in
theorem played_calls (n : Int) (A1 : Option Addr) (c1 : Nat) (l1 : List S122) (A2 : Option Addr) (c2 : Nat) (l2 : List S124) (A3 : Option Addr) (c3 : Nat) (os : List Int) (w : World)
    (hr1 : Kd.C k122 w A1 l1.length l1) (hc1 : l1.length ≤ c1) (hr2 : Kd.C k124 w A2 l2.length l2) (hc2 : l2.length ≤ c2) (hr3 : Kd.C (Kd.int .i64) w A3 os.length os) (hc3 : os.length ≤ c3) :
    Calls Try.prog 77 #[.agg #[.int .i64 n, .slice A1 l1.length c1, .slice A2 l2.length c2], .slice A3 os.length c3] w fun e w' => e = .returned (.tuple #[aggV (playV n l1 l2 os), .int .i64 (playE n l1 l2 os)]) ∧ Below w.heap.size w w' := by
  have hu35 := Try.underlying35
  have hu128 := Try.underlying128
  have hbw : Below w.heap.size w ((w.alloc (.cells #[.int .i64 n, .slice A1 l1.length c1, .slice A2 l2.length c2] 35)).alloc (.cells #[.int .i64 0, .int .i64 0, .int .i64 0, .int .i64 0, .int .i64 0, .int .i64 0] 128)) := z10 (z10 (Below.refl _ _) _) _
  have hk : ((w.alloc (.cells #[.int .i64 n, .slice A1 l1.length c1, .slice A2 l2.length c2] 35)).alloc (.cells #[.int .i64 0, .int .i64 0, .int .i64 0, .int .i64 0, .int .i64 0, .int .i64 0] 128)).heap[w.heap.size + 1]? = some (.cells #[.int .i64 0, .int .i64 0, .int .i64 0, .int .i64 0, .int .i64 0, .int .i64 0] 128 (0, 0)) := by
    have := z19 (w.alloc (.cells #[.int .i64 n, .slice A1 l1.length c1, .slice A2 l2.length c2] 35)) (.cells #[.int .i64 0, .int .i64 0, .int .i64 0, .int .i64 0, .int .i64 0, .int .i64 0] 128)
    simpa using this
  have hs : ((w.alloc (.cells #[.int .i64 n, .slice A1 l1.length c1, .slice A2 l2.length c2] 35)).alloc (.cells #[.int .i64 0, .int .i64 0, .int .i64 0, .int .i64 0, .int .i64 0, .int .i64 0] 128)).heap[w.heap.size]? = some (.cells #[.int .i64 n, .slice A1 l1.length c1, .slice A2 l2.length c2] 35 (0, 0)) :=
    blk_below (z19 w _) (z10 (Below.refl _ _) _)
  have HCK := mkA (soap_CheckSlate.calls n A1 c1 l1 A2 c2 l2 _ _ (Kd.C_below hr1 hbw) hc1 (Kd.C_below hr2 hbw) hc2 rfl)
  have HBW := mkA hbw
  have HK := mkA hk
  have HS := mkA hs
  clear hbw hk hs
  by_cases hck : checkS n l1 l2 = 0
  · obtain ⟨z0, z1, z2, z3, z4, z5, z6⟩ := z28 hck
    have HAR := mkA (fun (W : World) (hb : Below w.heap.size w W) => soap_Slate_are.calls _ n A1 c1 l1 A2 c2 l2 A3 c3 os _ W (Kd.C_below hr1 hb) hc1 (Kd.C_below hr2 hb) hc2 (Kd.C_below hr3 hb) hc3 (are_f n l1 l2 os (by omega)))
    rw [hck] at HCK
    have HR1 := mkA hr1
    have HR3 := mkA hr3
    have HCZ := mkA hck
    clear hck z4 z5 z6 hr1 hr2 hr3
    go_enter Try.func77, Try.ntmps77
    go_wp2_with fail
    refine HCK.out.mono ?_
    rintro e w1 ⟨rfl, hb⟩
    have HB1 := mkA (z16 HBW.out hb)
    have HK1 := mkA (blk_below HK.out hb)
    have HS1 := mkA (blk_below HS.out hb)
    clear hb HCK HBW HK HS
    have y0 : w1.cell? ⟨w.heap.size, 0, none⟩ = some (.int .i64 n) := (z12 HS1.out 0).trans rfl
    have y1 : w1.cell? ⟨w.heap.size, 1, none⟩ = some (.slice A1 l1.length c1) := (z12 HS1.out 1).trans rfl
    have y2 : w1.cell? ⟨w.heap.size, 2, none⟩ = some (.slice A2 l2.length c2) := (z12 HS1.out 2).trans rfl
    go_wp2_with fail
    refine (HAR.out _ HB1.out).mono ?_
    rintro e w2 ⟨rfl, hb⟩
    have HB2 := mkA (z16 HB1.out hb)
    have HK2 := mkA (blk_below HK1.out hb)
    have HS2 := mkA (blk_below HS1.out hb)
    clear hb HB1 HK1 HS1 y0 y1 y2 HAR
    cases har : areB l1 os with
    | false =>
      have HV := mkA (show playV n l1 l2 os = [0, 0, 0, 0, 0, 0] by unfold playV; rw [if_neg (fun h => by rw [har] at h; cases h.2)])
      have HE := mkA (show playE n l1 l2 os = 2 by unfold playE; rw [if_neg (by simp [HCZ.out]), if_neg (by simp [har])])
      clear har
      obtain ⟨x0, x1, x2, x3, x4, x5, xf⟩ := blk6 HK2.out
      have s0 := z26 x0
      have s1 := z26 x1
      have s2 := z26 x2
      have s3 := z26 x3
      have s4 := z26 x4
      have s5 := z26 x5
      go_wp2
      exact bodyPost_ret (v := .tuple #[aggV [0, 0, 0, 0, 0, 0], .int .i64 2]) (by simp [results, Try.results77, go_sem, aggV, rd, x0, x1, x2, x3, x4, x5]) rfl ⟨by rw [HV.out, HE.out], HB2.out⟩
    | true =>
      have HV := mkA (show playV n l1 l2 os = owedL l1 os by unfold playV; rw [if_pos ⟨HCZ.out, har⟩])
      have HE := mkA (show playE n l1 l2 os = 0 by unfold playE; rw [if_neg (by simp [HCZ.out]), if_pos har])
      have ha := of_decide_eq_true har
      have HO := mkA (owed_core n A1 c1 l1 A2 c2 l2 A3 c3 os w2 (Kd.C_below HR1.out HB2.out) hc1 (Kd.C_below HR3.out HB2.out) hc3 ha.1 z2 (fun i h0 hi => by
        have he := entry_in HCZ.out i h0 hi
        have h2 := ha.2 i.toNat (by omega)
        unfold z47 at h2
        rw [show ((i.toNat : Nat) : Int) = i by omega] at h2
        omega))
      clear har ha
      have y0 : w2.cell? ⟨w.heap.size, 0, none⟩ = some (.int .i64 n) := (z12 HS2.out 0).trans rfl
      have y1 : w2.cell? ⟨w.heap.size, 1, none⟩ = some (.slice A1 l1.length c1) := (z12 HS2.out 1).trans rfl
      have y2 : w2.cell? ⟨w.heap.size, 2, none⟩ = some (.slice A2 l2.length c2) := (z12 HS2.out 2).trans rfl
      go_wp2_with fail
      refine HO.out.mono ?_
      rintro e w3 ⟨rfl, hb⟩
      have HB3 := mkA (z16 HB2.out hb)
      have HK3 := mkA (blk_below HK2.out hb)
      clear hb HB2 HK2 HS2 HO y0 y1 y2
      generalize owedL l1 os = v at HV ⊢
      unfold aggV
      obtain ⟨x0, x1, x2, x3, x4, x5, xf⟩ := blk6 HK3.out
      go_wp2
      exact bodyPost_ret (v := .tuple #[aggV v, .int .i64 0]) (by simp [results, Try.results77, go_sem, aggV, x0, x1, x2, x3, x4, x5]) rfl ⟨by rw [HV.out, HE.out], by
        repeat (first | exact HB3.out | refine z15 ?_ (by omega))⟩
  · have HV := mkA (show playV n l1 l2 os = [0, 0, 0, 0, 0, 0] by unfold playV; rw [if_neg (fun h => hck h.1)])
    have HE := mkA (show playE n l1 l2 os = checkS n l1 l2 by unfold playE; rw [if_pos hck])
    have g1 : (checkS n l1 l2 != 0) = true := bne_iff_ne.2 hck
    have g2 : (checkS n l1 l2 == 0) = false := beq_eq_false_iff_ne.2 hck
    clear hck hr1 hr2 hr3
    go_enter Try.func77, Try.ntmps77
    go_wp2_with fail
    refine HCK.out.mono ?_
    rintro e w1 ⟨rfl, hb⟩
    have HB1 := mkA (z16 HBW.out hb)
    have HK1 := mkA (blk_below HK.out hb)
    clear hb HCK HBW HK HS
    obtain ⟨x0, x1, x2, x3, x4, x5, xf⟩ := blk6 HK1.out
    have s0 := z26 x0
    have s1 := z26 x1
    have s2 := z26 x2
    have s3 := z26 x3
    have s4 := z26 x4
    have s5 := z26 x5
    go_wp2
    exact bodyPost_ret (v := .tuple #[aggV [0, 0, 0, 0, 0, 0], .int .i64 (checkS n l1 l2)]) (by simp [results, Try.results77, go_sem, aggV, rd, x0, x1, x2, x3, x4, x5]) rfl ⟨by rw [HV.out, HE.out], HB1.out⟩
end Go.Proofs.Ytncaadckehikpaa.Q
namespace Go.Proofs.Ytncaadckehikpaa.Q
open Go.RowKit Go.Proofs.YtncaadckehikpaaW.PrintWords Go.Proofs.YtncaadckehikpaaW.PrintLast Go.Proofs.YtncaadckehikpaaW.PrintMore
set_option linter.unusedVariables false
set_option linter.unusedSimpArgs false
/-- How many numbers of ounces an entry leaves open. -/
def spanN (e : S122) : Nat := (e.f2.f1 + 1 - e.f2.f0).toNat
/-- All ounces that begin with some. -/
def enumO : List Int → List S122 → List (List Int)
  | p, [] => [p]
  | p, e :: es => (List.range (spanN e)).flatMap (fun k : Nat => enumO (p ++ [e.f2.f0 + (k : Int)]) es)
/-- .. those of the first numbers. -/
def enumTo (p : List Int) (e : S122) (es : List S122) (k : Nat) : List (List Int) := (List.range k).flatMap (fun k : Nat => enumO (p ++ [e.f2.f0 + (k : Int)]) es)
theorem enumO_cons (p : List Int) (e : S122) (es : List S122) : enumO p (e :: es) = enumTo p e es (spanN e) := rfl
theorem enumTo_succ (p : List Int) (e : S122) (es : List S122) (k : Nat) : enumTo p e es (k + 1) = enumTo p e es k ++ enumO (p ++ [e.f2.f0 + k]) es := by
  simp [enumTo, List.range_succ]
theorem enumTo_zero (p : List Int) (e : S122) (es : List S122) : enumTo p e es 0 = [] := rfl
theorem enumTo_prefix (p : List Int) (e : S122) (es : List S122) (k n : Nat) (h : k ≤ n) : enumTo p e es k <+: enumTo p e es n := by
  induction n with
  | zero => obtain rfl : k = 0 := by omega
            exact List.prefix_rfl
  | succ n ih =>
    rcases Nat.lt_or_ge k (n + 1) with hl | hl
    · rw [enumTo_succ]
      exact (ih (by omega)).trans (List.prefix_append _ _)
    · obtain rfl : k = n + 1 := by omega
      exact List.prefix_rfl
/-- What lies in the iterator's blocks. -/
structure IterAt (w0 : World) (l bs y : Nat) (n : Int) (A1 : Option Addr) (c1 : Nat) (l1 : List S122) (A2 : Option Addr) (c2 : Nat) (l2 : List S124) (os : List Int) (W : World) : Prop where
  below : Below w0.heap.size w0 W
  slate : W.heap[bs]? = some (.cells #[.int .i64 n, .slice A1 l1.length c1, .slice A2 l2.length c2] 35 (0, 0))
  yield : W.heap[y]? = some (.cells #[.func (.yield l) #[] #[]] 167 (0, 0))
  row : W.heap[y + 1]? = some (.cells (os.map (Value.int .i64)).toArray 3 (0, 0))
  now : W.heap[y + 2]? = some (.cells #[.slice (some ⟨y + 1, 0, none⟩) l1.length l1.length] 37 (0, 0))
  choose : W.heap[y + 3]? = some (.cells #[.func (.func 130) #[] #[.pointer (some ⟨bs, 0, none⟩), .pointer (some ⟨y, 0, none⟩), .pointer (some ⟨y + 2, 0, none⟩), .pointer (some ⟨y + 3, 0, none⟩)]] 164 (0, 0))
/-- But for the iterator's own blocks, and new ones, a world stays. -/
structure Zone (y : Nat) (W W' : World) : Prop where
  os : W'.os = W.os
  tape : W'.tape = W.tape
  output : W'.output = W.output
  size : W.heap.size ≤ W'.heap.size
  block : ∀ k, k < W.heap.size → ¬ (y ≤ k ∧ k < y + 4) → W'.heap[k]? = W.heap[k]?
theorem Zone.trans {y : Nat} {A B C : World} (h : Zone y A B) (k : Zone y B C) : Zone y A C :=
  ⟨k.os.trans h.os, k.tape.trans h.tape, k.output.trans h.output, Nat.le_trans h.size k.size, fun i hi hn => (k.block i (by have := h.size; omega) hn).trans (h.block i hi hn)⟩
theorem Zone.of_below {y : Nat} {W W' : World} (h : Below W.heap.size W W') : Zone y W W' := ⟨h.os, h.tape, h.output, h.size, fun k hk _ => h.block k hk⟩
theorem Zone.setCell {y : Nat} (W : World) (a : Addr) (v : Value) (h : y ≤ a.block ∧ a.block < y + 4) : Zone y W (W.setCell a v) :=
  ⟨rfl, rfl, rfl, by simp [World.setCell], fun k _ hn => Below.heap_setCell W a v k (fun e => hn (by rw [e]; exact h))⟩
theorem IterAt.belowW {w0 : World} {l bs y : Nat} {n : Int} {A1 : Option Addr} {c1 : Nat} {l1 : List S122} {A2 : Option Addr} {c2 : Nat} {l2 : List S124} {os : List Int} {W W' : World} (h : IterAt w0 l bs y n A1 c1 l1 A2 c2 l2 os W) (hb : Below W.heap.size W W') : IterAt w0 l bs y n A1 c1 l1 A2 c2 l2 os W' :=
  ⟨z16 h.below hb, blk_below h.slate hb, blk_below h.yield hb, blk_below h.row hb, blk_below h.now hb, blk_below h.choose hb⟩
end Go.Proofs.Ytncaadckehikpaa.Q
