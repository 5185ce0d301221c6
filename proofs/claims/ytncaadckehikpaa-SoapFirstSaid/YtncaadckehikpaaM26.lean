/- The last part: the row, by the parts before. No condition. -/
import Derived.Lib.SmallJoins
import Derived.Deep.Slices
import Derived.ChangeSame
import Derived.WideLaws
import Derived.Test.YtncaadckehikpaaRows
import Derived.WalkKit
import Derived.ProofKit
import Derived.OpenShut
import Derived.ChangeOld
import Derived.Below
import Derived.SizedLaws
import Derived.Test.YtncaadckehikpaaM15
import Derived.Test.YtncaadckehikpaaM24
import Derived.Test.YtncaadckehikpaaM22
import Derived.Test.YtncaadckehikpaaM19
import Derived.Test.YtncaadckehikpaaM25
import Derived.Test.YtncaadckehikpaaM3
namespace Go.Proofs.Ytncaadckehikpaa.Q
open Go.RowKit Go.Proofs.YtncaadckehikpaaW.PrintWords Go.Proofs.YtncaadckehikpaaW.PrintLast Go.Proofs.YtncaadckehikpaaW.PrintMore
set_option linter.unusedVariables false
set_option linter.unusedSimpArgs false
/-- The first k sayings, those of the bits alone. -/
def someTo (l : List S94) (b : Nat) : Nat → List S94
  | 0 => []
  | k + 1 => if bitN b k = true then someTo l b k ++ [rd_T94 l (k : Int)] else someTo l b k
def someL (l : List S94) (b : Nat) : List S94 := someTo l b l.length
theorem someTo_len (l : List S94) (b : Nat) : ∀ k, (someTo l b k).length ≤ k
  | 0 => by simp [someTo]
  | k + 1 => by
    have := someTo_len l b k
    unfold someTo
    split
    · rw [List.length_append, List.length_singleton]; omega
    · omega
theorem shr_bits_all : ∀ b : Fin 64, ∀ k : Fin 6, ((((b.val : Nat) : Int) / (2 : Int) ^ k.val).tmod 2 == 1) = bitN b.val k.val := by decide +kernel
structure SomeI (w0 : World) (n : Int) (A1 : Option Addr) (m1 c1 : Nat) (A2 : Option Addr) (c2 : Nat) (l2 : List S94) (b k : Nat) (v : Value) (W : World) : Prop where
  s : W.heap[w0.heap.size]? = some (.cells #[.int .i64 n, .slice A1 m1 c1, .slice A2 l2.length c2] 25 (0, 0))
  r : W.heap[w0.heap.size + 1]? = some (.cells #[.int .i64 0, .slice none 0 0, .slice none 0 0] 25 (0, 0))
  x : W.heap[w0.heap.size + 1 + 1]? = some (.cells #[.int .i64 n, .slice A1 m1 c1, v] 25 (0, 0))
  row : Kd.R k94 94 W w0.heap.size (fun _ => True) v (someTo l2 b k)
  below : Below w0.heap.size w0 W
set_option maxHeartbeats 4000000 in
set_option maxRecDepth 100000 in
theorem some_calls (n : Int) (A1 : Option Addr) (m1 c1 : Nat) (A2 : Option Addr) (c2 : Nat) (l2 : List S94) (b : Nat) (w : World) (hr2 : Kd.C k94 w A2 l2.length l2) (hc2 : l2.length ≤ c2) (hl : l2.length ≤ 5) (hb : b < 64) :
    Calls Try.prog 61 #[.agg #[.int .i64 n, .slice A1 m1 c1, .slice A2 l2.length c2], .int .i64 b] w fun e w' => ∃ v, e = .returned (.agg #[.int .i64 n, .slice A1 m1 c1, v]) ∧ Kd.R k94 94 w' w.heap.size (fun _ => True) v (someL l2 b) ∧ Below w.heap.size w w' := by
  have hu25 := Try.underlying25
  have hu94 := Try.underlying94
  have HR := mkA hr2
  clear hr2
  go_enter Try.func61, Try.ntmps61
  go_wp2
  have hz1 : (w.alloc (.cells #[.int .i64 n, .slice A1 m1 c1, .slice A2 l2.length c2] 25)).heap.size = w.heap.size + 1 := Array.size_push _
  have hz2 : ((w.alloc (.cells #[.int .i64 n, .slice A1 m1 c1, .slice A2 l2.length c2] 25)).alloc (.cells #[.int .i64 0, .slice none 0 0, .slice none 0 0] 25)).heap.size = w.heap.size + 1 + 1 := by rw [show ((w.alloc (.cells #[.int .i64 n, .slice A1 m1 c1, .slice A2 l2.length c2] 25)).alloc (.cells #[.int .i64 0, .slice none 0 0, .slice none 0 0] 25)).heap.size = (w.alloc (.cells #[.int .i64 n, .slice A1 m1 c1, .slice A2 l2.length c2] 25)).heap.size + 1 from Array.size_push _, hz1]
  have hI := mkA (show SomeI w n A1 m1 c1 A2 c2 l2 b 0 (.slice none 0 0) (((w.alloc (.cells #[.int .i64 n, .slice A1 m1 c1, .slice A2 l2.length c2] 25)).alloc (.cells #[.int .i64 0, .slice none 0 0, .slice none 0 0] 25)).alloc (.cells #[.int .i64 n, .slice A1 m1 c1, .slice none 0 0] 25)) from
    ⟨blk_below (heap_first w _ _) (z10 (Below.refl _ _) _), blk_below (heap_second w _ _) (z10 (Below.refl _ _) _), by have := z19 ((w.alloc (.cells #[.int .i64 n, .slice A1 m1 c1, .slice A2 l2.length c2] 25)).alloc (.cells #[.int .i64 0, .slice none 0 0, .slice none 0 0] 25)) (.cells #[.int .i64 n, .slice A1 m1 c1, .slice none 0 0] 25); rwa [hz2] at this,
      ⟨fun _ _ => trivial, [], ⟨rfl, .inl ⟨rfl, rfl⟩⟩, Reps.none _ _⟩, z10 (z10 (z10 (Below.refl _ _) _) _) _⟩)
  clear hz1 hz2
  go_loopw [6] (fun i wr => ∃ (k : Nat) (v : Value), k ≤ l2.length ∧ i = .int .i64 k ∧ SomeI w n A1 m1 c1 A2 c2 l2 b k v wr) (fun i _ => l2.length - (intOf i).toNat)
  case atStart => exact ⟨0, .slice none 0 0, by omega, rfl, hI.out⟩
  case round =>
    clear hI
    obtain ⟨k, v, hk, rfl, hI⟩ := hrel
    have HI := mkA hI
    clear hI
    obtain ⟨k0, k1, k2⟩ := box3 HI.out.s
    by_cases hlt : k < l2.length
    · have c0 : decide ((k : Int) < (l2.length : Int)) = true := decide_eq_true (by omega)
      have c0' : decide (k < l2.length) = true := decide_eq_true hlt
      have y4 := shr_bits_all ⟨b, hb⟩ ⟨k, by omega⟩
      simp only [] at y4
      by_cases hbit : bitN b k = true
      · rw [hbit] at y4
        obtain ⟨PV, dV, hv, qV, RV⟩ := Kd.R_reads HI.out.row
        subst hv
        obtain ⟨ad, e1, x0, x1, x2⟩ := at_T94 (Kd.C_below HR.out HI.out.below) (k : Int) (by omega) (by omega)
        simp only [Int.toNat_natCast] at x0 x1 x2
        cases e1
        clear qV RV
        go_wp2
        clear x0 x1 x2
        have HL := mkA hlt
        have hk0 : (0 : Int) ≤ (k : Int) := by omega
        have hk1 : (k : Int) < (l2.length : Int) := by omega
        have HKS := mkA (fun (W' : World) (hb1 : Below w.heap.size w W') (hs : W'.heap[w.heap.size]? = some (.cells #[.int .i64 n, .slice A1 m1 c1, .slice (some ad) l2.length c2] 25 (0, 0))) (hx : W'.heap[w.heap.size + 1 + 1]? = some (.cells #[.int .i64 n, .slice A1 m1 c1, .slice PV (someTo l2 b k).length dV] 25 (0, 0))) => show W'.cell? ⟨w.heap.size + 1 + 1, 2, none⟩ = some (.slice PV (someTo l2 b k).length dV) ∧ W'.cell? ⟨w.heap.size, 2, none⟩ = some (.slice (some ad) l2.length c2) ∧ W'.cell? (ad.add (k * 3)) = some (.int .i64 (rd_T94 l2 k).f0) ∧ W'.cell? ⟨(ad.add (k * 3)).block, (ad.add (k * 3)).off + 1, none⟩ = some (.int .i64 (rd_T94 l2 k).f1.f0) ∧ W'.cell? ⟨(ad.add (k * 3)).block, (ad.add (k * 3)).off + 2, none⟩ = some (.int .i64 (rd_T94 l2 k).f1.f1) from by
          obtain ⟨ad2, e2, x0, x1, x2⟩ := at_T94 (Kd.C_below HR.out hb1) (k : Int) (by omega) (by omega)
          cases e2
          exact ⟨(box3 hx).2.2, (box3 hs).2.2, x0, x1, x2⟩)
        focus
          refine plain_region_head (S := fun w' => w'.cell? ⟨w.heap.size + 1 + 1, 2, none⟩ = some (.slice PV (someTo l2 b k).length dV) ∧ w'.cell? ⟨w.heap.size, 2, none⟩ = some (.slice (some ad) l2.length c2) ∧ w'.cell? (ad.add (k * 3)) = some (.int .i64 (rd_T94 l2 k).f0) ∧ w'.cell? ⟨(ad.add (k * 3)).block, (ad.add (k * 3)).off + 1, none⟩ = some (.int .i64 (rd_T94 l2 k).f1.f0) ∧ w'.cell? ⟨(ad.add (k * 3)).block, (ad.add (k * 3)).off + 2, none⟩ = some (.int .i64 (rd_T94 l2 k).f1.f1)) 10 (by kernel_rfl) (by kernel_rfl) ?_ (fun hHeld => ?_)
          · (try dsimp only); exact HKS.out _ (z12 HI.out.below) (z37 HI.out.s) (z37 HI.out.x)
          try simp only [List.take_succ_cons, List.take_zero, List.drop_succ_cons, List.drop_zero]
          refine tk (v := ?_) 0 hHeld rfl (by kernel_rfl) (fun _ _ _ h => h) (Or.inl ⟨?tkh, ?tky⟩) ?_
          case tkh => rfl
          case tky => intro w hSw; (try dsimp only at hSw); go_simp; (try with_reducible rfl)
          try simp only [Act.put, xq1, xq2, xq3]
          refine tk (v := ?_) 1 hHeld rfl (by kernel_rfl) (fun _ _ _ h => h) (Or.inl ⟨?tkh, ?tky⟩) ?_
          case tkh => rfl
          case tky => intro w hSw; (try dsimp only at hSw); go_simp; (try with_reducible rfl)
          try simp only [Act.put, xq1, xq2, xq3]
          refine tk (v := ?_) 2 hHeld rfl (by kernel_rfl) (fun _ _ _ h => h) (Or.inl ⟨?tkh, ?tky⟩) ?_
          case tkh => rfl
          case tky => intro w hSw; (try dsimp only at hSw); go_simp; (try with_reducible rfl)
          try simp only [Act.put, xq1, xq2, xq3]
          refine tk (v := ?_) 3 hHeld rfl (by kernel_rfl) (fun _ _ _ h => h) (Or.inl ⟨?tkh, ?tky⟩) ?_
          case tkh => rfl
          case tky => intro w hSw; (try dsimp only at hSw); go_simp; (try with_reducible rfl)
          try simp only [Act.put, xq1, xq2, xq3]
          refine tk (v := ?_) 4 hHeld rfl (by kernel_rfl) (fun _ _ _ h => h) (Or.inl ⟨?tkh, ?tky⟩) ?_
          case tkh => rfl
          case tky => intro w hSw; (try dsimp only at hSw); go_simp; (try with_reducible rfl)
          try simp only [Act.put, xq1, xq2, xq3]
          refine tk (v := ?_) 5 hHeld rfl (by kernel_rfl) (fun _ _ _ h => h) (Or.inl ⟨?tkh, ?tky⟩) ?_
          case tkh => rfl
          case tky => intro w hSw; (try dsimp only at hSw); go_simp; (try with_reducible rfl)
          try simp only [Act.put, xq1, xq2, xq3]
          refine tk (v := ?_) 6 hHeld rfl (by kernel_rfl) (fun _ _ _ h => h) (Or.inl ⟨?tkh, ?tky⟩) ?_
          case tkh => rfl
          case tky => intro w hSw; (try dsimp only at hSw); go_simp; (try with_reducible rfl)
          try simp only [Act.put, xq1, xq2, xq3]
          refine wpAnyH_ready (rs := [7]) (by kernel_rfl) (by simp) (cs rfl (fun K hK => ?_) AllReadyH.nil)
          go_simp
          try simp only [Act.put, xq1, xq2, xq3]
          refine hK.out _ _ ?_ (fun hHeld2 => ?_)
          · (try dsimp only); exact HKS.out _ (z10 (z12 HI.out.below) _) (blk_below (z37 HI.out.s) (z10 (Below.refl _ _) _)) (blk_below (z37 HI.out.x) (z10 (Below.refl _ _) _))
          clear hK K hHeld; have hHeld := hHeld2; clear hHeld2
          refine wpAnyH_ready (rs := [8]) (by kernel_rfl) (by simp) (cs rfl (fun K hK => ?_) AllReadyH.nil)
          refine append_any k94 (w0 := w) (by rfl) (.tmp 23) (.tmp 29) 23 94 (.agg #[(.int .i64 0), (.int .i64 0), (.int .i64 0)]) 24 (by rfl) Try.underlying23 info94 (by rfl) (by decide) (by omega) (.slice PV (someTo l2 b k).length dV) (someTo l2 b k) [rd_T94 l2 k] (some ⟨wr.heap.size, 0, none⟩) 1 1 (by rfl) (by rfl) (Kd.R_below (Kd.R_below HI.out.row (z12 (Below.refl _ _))) (z10 (Below.refl _ _) _)) (C_block k94 cells94 (fun x => k94_mk _ x) [rd_T94 l2 k] (by simp) (z19 wr _)) (fun _ _ h => h) (z10 (z12 HI.out.below) _) (by have := someTo_len l2 b k; omega) ?_
          intro v1 w1 ho hbl hg hat
          have hs1 := z33 (blk_below (z37 HI.out.s) (z10 (Below.refl _ _) (.cells #[.int .i64 (rd_T94 l2 k).f0, .int .i64 (rd_T94 l2 k).f1.f0, .int .i64 (rd_T94 l2 k).f1.f1] 94))) hg (Kd.R_ne HI.out.row HI.out.s (by decide))
          have hr1 := z33 (blk_below (z37 HI.out.r) (z10 (Below.refl _ _) (.cells #[.int .i64 (rd_T94 l2 k).f0, .int .i64 (rd_T94 l2 k).f1.f0, .int .i64 (rd_T94 l2 k).f1.f1] 94))) hg (Kd.R_ne HI.out.row HI.out.r (by decide))
          have hx1 := z33 (blk_below (z37 HI.out.x) (z10 (Below.refl _ _) (.cells #[.int .i64 (rd_T94 l2 k).f0, .int .i64 (rd_T94 l2 k).f1.f0, .int .i64 (rd_T94 l2 k).f1.f1] 94))) hg (Kd.R_ne HI.out.row HI.out.x (by decide))
          obtain ⟨PN, dN, hv, qN, RN⟩ := Kd.R_reads ho
          simp only [List.length_append, List.length_cons, List.length_nil, Nat.zero_add] at hv
          subst hv
          clear qN RN hg hat
          try simp only [Act.put, xq1, xq2, xq3]
          refine hK.out _ _ ?_ (fun hHeld2 => ?_)
          · (try dsimp only); exact HKS.out _ hbl hs1 hx1
          clear hK K hHeld; have hHeld := hHeld2; clear hHeld2
          have HS1 := mkA hs1
          have HR1 := mkA hr1
          have HX1 := mkA hx1
          have HO1 := mkA ho
          have HB1 := mkA hbl
          clear hs1 hr1 hx1 ho hbl
          refine tk (v := ?_) 9 hHeld rfl (by kernel_rfl) (fun _ _ _ h => h) (Or.inl ⟨?tkh, ?tky⟩) ?_
          case tkh => rfl
          case tky => intro w hSw; (try dsimp only at hSw); go_simp; (try with_reducible rfl)
          try simp only [Act.put, xq1, xq2, xq3]
          refine wpAnyH_done (by kernel_rfl) ?_ _
          all_goals (refine EndsBy.mk ?_)
        have f2 := z14 HX1.out 2
        have x2 := (box3 HX1.out).2.2
        clear HKS
        go_wp2
        go_roundw
        case rel =>
          refine ⟨k + 1, _, by omega, by go_num, blk_far HS1.out (show w.heap.size ≠ w.heap.size + 1 + 1 by omega) _, blk_far HR1.out (show w.heap.size + 1 ≠ w.heap.size + 1 + 1 by omega) _, blk_put HX1.out 2 _ rfl, ?_, z15 HB1.out (by omega)⟩
          rw [show someTo l2 b (k + 1) = someTo l2 b k ++ [rd_T94 l2 (k : Int)] by rw [someTo, if_pos hbit]]
          exact Kd.R_set HO1.out HX1.out (by decide) 2 _
        case measure => simp [intOf]; omega
      · rw [Bool.not_eq_true] at hbit
        rw [hbit] at y4
        go_wp2
        go_roundw
        case rel =>
          refine ⟨k + 1, v, by omega, by go_num, HI.out.s, HI.out.r, HI.out.x, ?_, HI.out.below⟩
          unfold someTo
          rw [hbit]
          exact HI.out.row
        case measure => simp [intOf]; omega
    · have c0 : decide ((k : Int) < (l2.length : Int)) = false := decide_eq_false (by omega)
      have c0' : decide (k < l2.length) = false := decide_eq_false hlt
      obtain rfl : k = l2.length := by omega
      obtain ⟨PV, dV, hv, qV, RV⟩ := Kd.R_reads HI.out.row
      subst hv
      clear qV RV
      obtain ⟨x0, x1, x2⟩ := box3 HI.out.x
      obtain ⟨r0, r1, r2⟩ := box3 HI.out.r
      have f0 := z14 HI.out.r 0
      have f1 := z14 HI.out.r 1
      have f2 := z14 HI.out.r 2
      have HS2 := mkA (show (((wr.setCell ⟨w.heap.size + 1, 0, none⟩ (.int .i64 n)).setCell ⟨w.heap.size + 1, 1, none⟩ (.slice A1 m1 c1)).setCell ⟨w.heap.size + 1, 2, none⟩ (.slice PV (someTo l2 b l2.length).length dV)).heap[w.heap.size + 1]? = some (.cells #[.int .i64 n, .slice A1 m1 c1, .slice PV (someTo l2 b l2.length).length dV] 25 (0, 0)) from
        blk_put (blk_put (blk_put HI.out.r 0 _ rfl) 1 _ rfl) 2 _ rfl)
      have HO2 := mkA (Kd.R_set (Kd.R_set (Kd.R_set HI.out.row HI.out.r (by decide) 0 (.int .i64 n)) (blk_put HI.out.r 0 _ rfl) (by decide) 1 (.slice A1 m1 c1)) (blk_put (blk_put HI.out.r 0 _ rfl) 1 _ rfl) (by decide) 2 (.slice PV (someTo l2 b l2.length).length dV))
      have HB2 := mkA (z15 (j := 2) (v := .slice PV (someTo l2 b l2.length).length dV) (z15 (j := 1) (v := .slice A1 m1 c1) (z15 (j := 0) (v := .int .i64 n) HI.out.below (show w.heap.size ≤ w.heap.size + 1 by omega)) (show w.heap.size ≤ w.heap.size + 1 by omega)) (show w.heap.size ≤ w.heap.size + 1 by omega))
      go_wp2
      generalize (((wr.setCell ⟨w.heap.size + 1, 0, none⟩ (.int .i64 n)).setCell ⟨w.heap.size + 1, 1, none⟩ (.slice A1 m1 c1)).setCell ⟨w.heap.size + 1, 2, none⟩ (.slice PV (someTo l2 b l2.length).length dV)) = w9 at HS2 HO2 HB2 ⊢
      obtain ⟨e0, e1, e2⟩ := box3 HS2.out
      refine bodyPost_ret (v := .agg #[.int .i64 n, .slice A1 m1 c1, .slice PV (someTo l2 b l2.length).length dV]) (by simp [results, Try.results61, go_sem, e0, e1, e2]) rfl ⟨_, rfl, HO2.out, HB2.out⟩
end Go.Proofs.Ytncaadckehikpaa.Q
namespace Go.Proofs.Ytncaadckehikpaa.Q
open Go.RowKit Go.Proofs.YtncaadckehikpaaW.PrintWords Go.Proofs.YtncaadckehikpaaW.PrintLast Go.Proofs.YtncaadckehikpaaW.PrintMore
set_option linter.unusedVariables false
set_option linter.unusedSimpArgs false
theorem full2_all : ∀ i : Fin 5, wrap64 (wrap64 (2 * 2 ^ i.val) - 1) = ((2 * 2 ^ i.val - 1 : Nat) : Int) := by decide +kernel
theorem full2 (i : Nat) (h : i < 5) : wrap64 (wrap64 (2 * 2 ^ i) - 1) = ((2 * 2 ^ i - 1 : Nat) : Int) := full2_all ⟨i, h⟩
section
variable (n : Int) (A1 : Option Addr) (c1 : Nat) (l1 : List S91) (A2 : Option Addr) (c2 : Nat) (l2 : List S94) (w : World)
  (hr1 : Kd.C k91 w A1 l1.length l1) (hc1 : l1.length ≤ c1) (hr2 : Kd.C k94 w A2 l2.length l2) (hc2 : l2.length ≤ c2)
set_option linter.unusedSectionVars false
include hr1 hc1 hr2 hc2
set_option maxHeartbeats 4000000 in
set_option maxRecDepth 100000 in
theorem first_no (f45 : pl_ready.f 100 n l1 l2 = some false) :
    Calls Try.prog 15 #[.agg #[.int .i64 n, .slice A1 l1.length c1, .slice A2 l2.length c2]] w fun e w' => e = .returned (.bool true) ∧ Below w.heap.size w w' := by
  have hu25 := Try.underlying25
  have HB := mkA (z10 (Below.refl w.heap.size w) (.cells #[.int .i64 n, .slice A1 l1.length c1, .slice A2 l2.length c2] 25))
  have H45 := mkA (pl_ready.calls 100 n A1 c1 l1 A2 c2 l2 false _ (Kd.C_below hr1 HB.out) hc1 (Kd.C_below hr2 HB.out) hc2 f45)
  clear hr1 hr2 f45
  go_enter Try.func15, Try.ntmps15
  go_wp2_with fail
  refine H45.out.mono ?_
  rintro e w1 ⟨rfl, hb⟩
  replace HB := mkA (z17 HB.out hb)
  clear hb H45
  go_wp2_with fail
  refine (pl_awake.calls true _ rfl).mono ?_
  rintro e w2 ⟨rfl, hb⟩
  replace HB := mkA (z17 HB.out hb)
  clear hb
  go_wp2
  go_ret
  exact ⟨rfl, HB.out⟩
set_option maxHeartbeats 4000000 in
set_option maxRecDepth 100000 in
theorem first_none (f45 : pl_ready.f 100 n l1 l2 = some true) (X1 : List S122) (X2 : List S124) (hx : SlateOk w (.agg #[.int .i64 n, .slice A1 l1.length c1, .slice A2 l2.length c2]) n X1 X2)
    (f39 : soap_First.f n X1 X2 = some (0, 7)) (bs : List S44) (f22 : soap_Bounds.f n X1 X2 = some (bs, 0)) :
    Calls Try.prog 15 #[.agg #[.int .i64 n, .slice A1 l1.length c1, .slice A2 l2.length c2]] w fun e w' => e = .returned (.bool true) ∧ Below w.heap.size w w' := by
  have hu25 := Try.underlying25
  have H45 := mkA (fun (W : World) (hb : Below w.heap.size w W) => pl_ready.calls 100 n A1 c1 l1 A2 c2 l2 true W (Kd.C_below hr1 hb) hc1 (Kd.C_below hr2 hb) hc2 f45)
  have HX := mkA hx
  have F39 := mkA f39
  have F22 := mkA f22
  clear hx hr1 hr2 f45 f39 f22
  have HB := mkA (z10 (Below.refl w.heap.size w) (.cells #[.int .i64 n, .slice A1 l1.length c1, .slice A2 l2.length c2] 25))
  have HK := mkA (z19 w (.cells #[.int .i64 n, .slice A1 l1.length c1, .slice A2 l2.length c2] 25))
  go_enter Try.func15, Try.ntmps15
  go_wp2_with fail
  refine (H45.out _ HB.out).mono ?_
  rintro e w1 ⟨rfl, hb⟩
  replace HB := mkA (z17 HB.out hb)
  replace HK := mkA (blk_below HK.out hb)
  clear hb
  obtain ⟨k0, k1, k2⟩ := box3 HK.out
  go_wp2_with fail
  refine (HX.out _ HB.out).mono ?_
  rintro e w2 ⟨B1, d1, B2, d2, rfl, h1, h2, h3, h4, hb⟩
  replace HB := mkA (z17 HB.out hb)
  replace HK := mkA (blk_below HK.out hb)
  clear hb
  have P1 := mkA h1
  clear h1
  have P2 := mkA h3
  clear h3
  clear k0 k1 k2
  go_wp2_with fail
  refine (soap_First.calls n B1 d1 X1 B2 d2 X2 _ _ _ P1.out h2 P2.out h4 F39.out).mono ?_
  rintro e w3 ⟨rfl, hb⟩
  replace HB := mkA (z17 HB.out hb)
  replace HK := mkA (blk_below HK.out hb)
  clear hb
  clear P1 P2 h2 h4
  obtain ⟨k0, k1, k2⟩ := box3 HK.out
  go_wp2_with fail
  refine (HX.out _ HB.out).mono ?_
  rintro e w4 ⟨B1, d1, B2, d2, rfl, h1, h2, h3, h4, hb⟩
  replace HB := mkA (z17 HB.out hb)
  replace HK := mkA (blk_below HK.out hb)
  clear hb
  have P1 := mkA h1
  clear h1
  have P2 := mkA h3
  clear h3
  clear k0 k1 k2
  go_wp2_with fail
  refine (soap_Bounds.calls n B1 d1 X1 B2 d2 X2 _ _ _ P1.out h2 P2.out h4 F22.out).mono ?_
  rintro e w5 ⟨vb, rfl, hl, hb⟩
  replace HB := mkA (z17 HB.out hb)
  replace HK := mkA (blk_below HK.out hb)
  clear hb
  clear hl
  clear P1 P2 h2 h4
  go_wp2_with fail
  refine (pl_awake.calls true _ rfl).mono ?_
  rintro e w6 ⟨rfl, hb⟩
  replace HB := mkA (z17 HB.out hb)
  replace HK := mkA (blk_below HK.out hb)
  clear hb
  go_wp2
  go_ret
  exact ⟨rfl, HB.out⟩
set_option maxHeartbeats 4000000 in
set_option maxRecDepth 100000 in
theorem first_some (f45 : pl_ready.f 100 n l1 l2 = some true) (q1 : l1.length ≤ 30) (q2 : l2.length ≤ 5) (X1 : List S122) (X2 : List S124) (hx : SlateOk w (.agg #[.int .i64 n, .slice A1 l1.length c1, .slice A2 l2.length c2]) n X1 X2)
    (i : Nat) (hi : i < l2.length) (f39 : soap_First.f n X1 X2 = some ((i : Int), 0)) (Y1 Y2 : List S124) (hX1 : l1.map c91 = X1) (hY1 : (someL l2 (2 ^ i - 1)).map c94 = Y1) (hY2 : (someL l2 (2 * 2 ^ i - 1)).map c94 = Y2)
    (f59 : pr_In.f (i : Int) 0 ((l2.length : Int) - 1) = some true) (bs : List S44) (f22 : soap_Bounds.f n X1 Y1 = some (bs, 0)) (f23 : soap_Bounds.f n X1 Y2 = some ([], 11)) :
    Calls Try.prog 15 #[.agg #[.int .i64 n, .slice A1 l1.length c1, .slice A2 l2.length c2]] w fun e w' => e = .returned (.bool true) ∧ Below w.heap.size w w' := by
  have hu25 := Try.underlying25
  have H45 := mkA (fun (W : World) (hb : Below w.heap.size w W) => pl_ready.calls 100 n A1 c1 l1 A2 c2 l2 true W (Kd.C_below hr1 hb) hc1 (Kd.C_below hr2 hb) hc2 f45)
  have HX := mkA hx
  have F39 := mkA f39
  have F22 := mkA f22
  have F23 := mkA f23
  have F59 := mkA f59
  have HR1 := mkA hr1
  have HR2 := mkA hr2
  have E1 := mkA hX1
  have E2 := mkA hY1
  have E3 := mkA hY2
  clear hX1 hY1 hY2
  clear hx hr1 hr2 f45 f39 f22 f23 f59
  have HB := mkA (z10 (Below.refl w.heap.size w) (.cells #[.int .i64 n, .slice A1 l1.length c1, .slice A2 l2.length c2] 25))
  have HK := mkA (z19 w (.cells #[.int .i64 n, .slice A1 l1.length c1, .slice A2 l2.length c2] 25))
  go_enter Try.func15, Try.ntmps15
  go_wp2_with fail
  refine (H45.out _ HB.out).mono ?_
  rintro e w1 ⟨rfl, hb⟩
  replace HB := mkA (z17 HB.out hb)
  replace HK := mkA (blk_below HK.out hb)
  clear hb
  obtain ⟨k0, k1, k2⟩ := box3 HK.out
  go_wp2_with fail
  refine (HX.out _ HB.out).mono ?_
  rintro e w2 ⟨B1, d1, B2, d2, rfl, h1, h2, h3, h4, hb⟩
  replace HB := mkA (z17 HB.out hb)
  replace HK := mkA (blk_below HK.out hb)
  clear hb
  have P1 := mkA h1
  clear h1
  have P2 := mkA h3
  clear h3
  clear k0 k1 k2
  go_wp2_with fail
  refine (soap_First.calls n B1 d1 X1 B2 d2 X2 _ _ _ P1.out h2 P2.out h4 F39.out).mono ?_
  rintro e w3 ⟨rfl, hb⟩
  replace HB := mkA (z17 HB.out hb)
  replace HK := mkA (blk_below HK.out hb)
  clear hb
  clear P1 P2 h2 h4
  obtain ⟨k0, k1, k2⟩ := box3 HK.out
  go_wp2_with fail
  refine (pr_In.calls _ _ _ true _ F59.out).mono ?_
  rintro e w4 ⟨rfl, ⟨mm, hw⟩⟩
  have hb : Below w3.heap.size w3 w4 := by rw [hw]; exact z11 (Below.refl _ _) _
  clear hw
  replace HB := mkA (z17 HB.out hb)
  replace HK := mkA (blk_below HK.out hb)
  clear hb
  clear k0 k1 k2
  have p5 : 2 ^ i ≤ 16 := Nat.le_trans (Nat.pow_le_pow_right (by omega) (show i ≤ 4 by omega)) (by decide)
  have p6 : 1 ≤ 2 ^ i := Nat.one_le_two_pow
  obtain ⟨k0, k1, k2⟩ := box3 HK.out
  go_wp2_with fail
  rw [full_small i (by omega)]
  refine (some_calls n A1 _ c1 A2 c2 l2 (2 ^ i - 1) _ (Kd.C_below HR2.out HB.out) hc2 q2 (by omega)).mono ?_
  rintro e w5 ⟨v, rfl, hl, hb⟩
  replace HB := mkA (z17 HB.out hb)
  replace HK := mkA (blk_below HK.out hb)
  clear hb
  have LV := mkA hl
  clear hl
  clear k0 k1 k2
  obtain ⟨PV, dV, rfl, qV, RV⟩ := Kd.R_reads LV.out
  have HZ := mkA (slate_ok n A1 l1.length c1 l1 PV _ dV _ w5 (Kd.C_below HR1.out HB.out) hc1 RV qV q1 (by have := someTo_len l2 (2 ^ i - 1) l2.length; unfold someL; omega))
  rw [E1.out, E2.out] at HZ
  clear RV qV LV
  go_wp2_with fail
  refine (HZ.out _ (Below.refl _ _)).mono ?_
  rintro e w6 ⟨B1, d1, B2, d2, rfl, h1, h2, h3, h4, hb⟩
  replace HB := mkA (z17 HB.out hb)
  replace HK := mkA (blk_below HK.out hb)
  clear hb
  have P1 := mkA h1
  clear h1
  have P2 := mkA h3
  clear h3
  clear HZ
  go_wp2_with fail
  refine (soap_Bounds.calls n B1 d1 X1 B2 d2 Y1 _ _ _ P1.out h2 P2.out h4 F22.out).mono ?_
  rintro e w7 ⟨vb, rfl, hl, hb⟩
  replace HB := mkA (z17 HB.out hb)
  replace HK := mkA (blk_below HK.out hb)
  clear hb
  clear hl
  clear P1 P2 h2 h4
  have e2 : wrap64 (wrap64 (2 * 2 ^ i) - 1) = ((2 * 2 ^ i - 1 : Nat) : Int) := full2 i (by omega)
  obtain ⟨k0, k1, k2⟩ := box3 HK.out
  go_wp2_with fail
  rw [e2]
  refine (some_calls n A1 _ c1 A2 c2 l2 (2 * 2 ^ i - 1) _ (Kd.C_below HR2.out HB.out) hc2 q2 (by omega)).mono ?_
  rintro e w8 ⟨v, rfl, hl, hb⟩
  replace HB := mkA (z17 HB.out hb)
  replace HK := mkA (blk_below HK.out hb)
  clear hb
  have LV := mkA hl
  clear hl
  clear k0 k1 k2
  obtain ⟨PV, dV, rfl, qV, RV⟩ := Kd.R_reads LV.out
  have HZ := mkA (slate_ok n A1 l1.length c1 l1 PV _ dV _ w8 (Kd.C_below HR1.out HB.out) hc1 RV qV q1 (by have := someTo_len l2 (2 * 2 ^ i - 1) l2.length; unfold someL; omega))
  rw [E1.out, E3.out] at HZ
  clear RV qV LV
  go_wp2_with fail
  refine (HZ.out _ (Below.refl _ _)).mono ?_
  rintro e w9 ⟨B1, d1, B2, d2, rfl, h1, h2, h3, h4, hb⟩
  replace HB := mkA (z17 HB.out hb)
  replace HK := mkA (blk_below HK.out hb)
  clear hb
  have P1 := mkA h1
  clear h1
  have P2 := mkA h3
  clear h3
  clear HZ
  go_wp2_with fail
  refine (soap_Bounds.calls n B1 d1 X1 B2 d2 Y2 _ _ _ P1.out h2 P2.out h4 F23.out).mono ?_
  rintro e w10 ⟨vb, rfl, hl, hb⟩
  replace HB := mkA (z17 HB.out hb)
  replace HK := mkA (blk_below HK.out hb)
  clear hb
  clear hl
  clear P1 P2 h2 h4
  go_wp2_with fail
  refine (pl_awake.calls true _ rfl).mono ?_
  rintro e w11 ⟨rfl, hb⟩
  replace HB := mkA (z17 HB.out hb)
  replace HK := mkA (blk_below HK.out hb)
  clear hb
  go_wp2
  go_ret
  exact ⟨rfl, HB.out⟩
end
end Go.Proofs.Ytncaadckehikpaa.Q
namespace Go.Proofs.Ytncaadckehikpaa.Q
open Go.RowKit Go.Proofs.YtncaadckehikpaaW.PrintWords Go.Proofs.YtncaadckehikpaaW.PrintLast Go.Proofs.YtncaadckehikpaaW.PrintMore
set_option linter.unusedVariables false
set_option linter.unusedSimpArgs false
theorem low_bits_all : ∀ m : Fin 6, ∀ k : Fin 6, bitN (2 ^ m.val - 1) k.val = decide (k.val < m.val) := by decide +kernel
theorem someTo_low (l : List S94) (m : Nat) (hm : m ≤ 5) : ∀ k : Nat, k ≤ l.length → k ≤ 5 → someTo l (2 ^ m - 1) k = l.take (min k m)
  | 0, _, _ => by simp [someTo]
  | k + 1, h, h5 => by
    have hb := low_bits_all ⟨m, by omega⟩ ⟨k, by omega⟩
    simp only [] at hb
    rw [someTo, hb, someTo_low l m hm k (by omega) (by omega)]
    by_cases c : k < m
    · rw [decide_eq_true c, if_pos rfl, Nat.min_eq_left (by omega), Nat.min_eq_left (by omega), rd94 l k (by omega), List.take_succ_eq_append_getElem (by omega)]
    · rw [decide_eq_false c, if_neg (by simp), Nat.min_eq_right (by omega), Nat.min_eq_right (by omega)]
theorem someL_low (l : List S94) (m : Nat) (hm : m ≤ l.length) (hl : l.length ≤ 5) : someL l (2 ^ m - 1) = l.take m := by
  unfold someL
  rw [someTo_low l m (by omega) l.length (Nat.le_refl _) hl, Nat.min_eq_right hm]
section
variable (n : Int) (l1 : List S91) (l2 : List S94) (hck : checkS n (l1.map c91) (l2.map c94) = 0)
include hck
theorem poss_none : possB (l1.map c91) [] [] = true := by
  obtain ⟨z0, z1, z2, z3, z4, z5⟩ := checkS_ent hck
  have hp := prodS_pos (l1.map c91) (fun e h => (z4.sizes e h).1)
  have hpn := (prodN_le hck).2
  rw [poss_mem]
  exact ⟨_, (mem_enumO (l1.map c91) [] _).2 ⟨0, by omega, rfl⟩, fun i hi => by simp at hi⟩
/-- The sayings before each place where First found none are possible. -/
theorem poss_take (m : Nat) (h : ∀ j, j < m → possB (l1.map c91) ((l2.map c94).take (j + 1)) [] = true) : possB (l1.map c91) ((l2.map c94).take m) [] = true := by
  cases m with
  | zero => rw [List.take_zero]; exact poss_none n l1 l2 hck
  | succ m => exact h m (Nat.lt_succ_self m)
theorem bounds_ok (m : Nat) (h : possB (l1.map c91) ((l2.map c94).take m) [] = true) : ∃ bs, soap_Bounds.f n (l1.map c91) ((l2.map c94).take m) = some (bs, 0) := by
  rw [soap_Bounds.f, askErr_zero (checkS_take hck m) ((poss_truths _ _).1 h)]
  exact ⟨_, rfl⟩
theorem bounds_no (m : Nat) (h : possB (l1.map c91) ((l2.map c94).take m) [] = false) : soap_Bounds.f n (l1.map c91) ((l2.map c94).take m) = some ([], 11) := by
  have : truthsL (l1.map c91) ((l2.map c94).take m) = [] := by
    by_cases e : truthsL (l1.map c91) ((l2.map c94).take m) = []
    · exact e
    · rw [(poss_truths _ _).2 e] at h
      cases h
  rw [soap_Bounds.f, askErr_false (checkS_take hck m) this]
  rfl
end
/-- The law's call. -/
theorem soapFirst_calls (n : Int) (A1 : Option Addr) (c1 : Nat) (l1 : List S91) (A2 : Option Addr) (c2 : Nat) (l2 : List S94) (w : World)
    (hr1 : Kd.C k91 w A1 l1.length l1) (hc1 : l1.length ≤ c1) (hr2 : Kd.C k94 w A2 l2.length l2) (hc2 : l2.length ≤ c2) :
    Calls Try.prog 15 #[.agg #[.int .i64 n, .slice A1 l1.length c1, .slice A2 l2.length c2]] w fun e w' => e = .returned (.bool true) ∧ Below w.heap.size w w' := by
  have hrd := ready_split (n := n) (l1 := l1) (l2 := l2) 100 (by omega)
  by_cases hck : checkS n (l1.map c91) (l2.map c94) = 0
  · rw [decide_eq_true hck] at hrd
    obtain ⟨z0, z1, z2, z3, z4, z5⟩ := checkS_ent hck
    have hlen : (l2.map c94).length = l2.length := List.length_map _
    have hx := slate_ok n A1 _ c1 l1 A2 _ c2 l2 w hr1 hc1 hr2 hc2 (by omega) (by omega)
    rcases hf : firstO (l1.map c91) (l2.map c94) with _ | i
    · have hall : ∀ j, j < l2.length → possB (l1.map c91) ((l2.map c94).take (j + 1)) [] = true := fun j hj => by
        have := List.find?_eq_none.1 hf j (List.mem_range.2 (by omega))
        simpa using this
      obtain ⟨bs, hb⟩ := bounds_ok n l1 l2 hck l2.length (poss_take n l1 l2 hck l2.length hall)
      rw [← hlen, List.take_length] at hb
      exact first_none n A1 c1 l1 A2 c2 l2 w hr1 hc1 hr2 hc2 hrd _ _ hx (by rw [soap_First.f, if_pos hck, hf]) bs hb
    · have h1 := List.find?_some hf
      have h2 := List.mem_range.1 (List.mem_of_find?_eq_some hf)
      have h3 : ∀ j, j < i → possB (l1.map c91) ((l2.map c94).take (j + 1)) [] = true := fun j hj => by
        obtain ⟨_, pre, post, hsp, hno⟩ := List.find?_eq_some_iff_append.1 hf
        have hja : j ∈ pre := by
          have hi : (List.range (l2.map c94).length)[pre.length]? = some i := by rw [hsp]; simp
          rw [List.getElem?_range (by
            have : pre.length < (List.range (l2.map c94).length).length := by rw [hsp]; simp
            simpa using this)] at hi
          have hi2 : pre.length = i := Option.some.inj hi
          have hj2 : (List.range (l2.map c94).length)[j]? = some j := List.getElem?_range (by omega)
          rw [hsp, List.getElem?_append_left (by omega)] at hj2
          exact List.mem_of_getElem? hj2
        have := hno j hja
        simpa using this
      rw [hlen] at h2
      obtain ⟨bs, hb⟩ := bounds_ok n l1 l2 hck i (poss_take n l1 l2 hck i h3)
      have hb2 := bounds_no n l1 l2 hck (i + 1) (by simpa using h1)
      refine first_some n A1 c1 l1 A2 c2 l2 w hr1 hc1 hr2 hc2 hrd (by omega) z3 _ _ hx i h2 (by rw [soap_First.f, if_pos hck, hf]) _ _ rfl rfl rfl ?_ bs ?_ ?_
      · unfold pr_In.f
        simp
        omega
      · rw [someL_low l2 i (by omega) z3, List.map_take]
        exact hb
      · rw [show 2 * 2 ^ i - 1 = 2 ^ (i + 1) - 1 by rw [Nat.pow_succ, Nat.mul_comm], someL_low l2 (i + 1) (by omega) z3, List.map_take]
        exact hb2
  · rw [decide_eq_false hck] at hrd
    exact first_no n A1 c1 l1 A2 c2 l2 w hr1 hc1 hr2 hc2 hrd
end Go.Proofs.Ytncaadckehikpaa.Q
namespace Go.Proofs.Ytncaadckehikpaa.Q
open Go.RowKit Go.Proofs.YtncaadckehikpaaW.PrintWords Go.Proofs.YtncaadckehikpaaW.PrintLast Go.Proofs.YtncaadckehikpaaW.PrintMore
open Go.ChangeShapes Go.WideShapes Go.Deep Go.Joins
set_option linter.unusedVariables false
set_option linter.unusedSimpArgs false
theorem list2 {α : Type} {l : List α} (h : l.length = 2) : ∃ a b, l = [a, b] := by
  match l, h with
  | [a, b], _ => exact ⟨a, b, rfl⟩
theorem list3 {α : Type} {l : List α} (h : l.length = 3) : ∃ a b c, l = [a, b, c] := by
  match l, h with
  | [a, b, c], _ => exact ⟨a, b, c, rfl⟩
theorem list4 {α : Type} {l : List α} (h : l.length = 4) : ∃ a b c d, l = [a, b, c, d] := by
  match l, h with
  | [a, b, c, d], _ => exact ⟨a, b, c, d, rfl⟩
section
variable {H : Type} {enc : TypeId × Value → H} {w : World} {base : Nat} {spare : Nat → Bool} {held : Bool}
theorem cells_3 : Try.prog.cellsOf 3 = 1 := by kernel_rfl
theorem cells_46 : Try.prog.cellsOf 46 = 2 := by kernel_rfl
theorem cells_91 : Try.prog.cellsOf 91 = 4 := by kernel_rfl
theorem cells_94 : Try.prog.cellsOf 94 = 3 := by kernel_rfl
theorem cells_25 : Try.prog.cellsOf 25 = 3 := by kernel_rfl
theorem one25 : oneCellFields Try.prog #[{ name := "Women", type := 3, offset := 0, embedded := false, tag := "", pkgPath := "", byteOffset := 0 }, { name := "Entries", type := 22, offset := 1, embedded := false, tag := "", pkgPath := "", byteOffset := 8 }, { name := "Sayings", type := 23, offset := 2, embedded := false, tag := "", pkgPath := "", byteOffset := 32 }] = true := by kernel_rfl
/-- A range. -/
theorem open_46 {fuel : Nat} {cs : List Value} {x : DataW H × List MemPlace} (h : DataW.trod enc Try.prog w base spare held fuel 46 cs = some x) :
    ∃ a b : Int, cs = [.int .i64 a, .int .i64 b] := by
  obtain ⟨xs, n, _, _, hl, hlen, hf⟩ := DataW.trod_struct Try.underlying46 h
  rw [cells_46] at hl
  obtain ⟨c0, c1, rfl⟩ := list2 hl
  obtain ⟨y0, y1, rfl⟩ := list2 hlen
  have h0 := hf 0 _ rfl
  change DataW.trod enc Try.prog w base spare held n 3 (([c0, c1].drop 0).take (Try.prog.cellsOf 3)) = some y0 at h0
  rw [cells_3] at h0
  have h1 := hf 1 _ rfl
  change DataW.trod enc Try.prog w base spare held n 3 (([c0, c1].drop 1).take (Try.prog.cellsOf 3)) = some y1 at h1
  rw [cells_3] at h1
  obtain ⟨a, ha, _, _⟩ := DataW.trod_int Try.underlying3 h0
  obtain ⟨b, hb, _, _⟩ := DataW.trod_int Try.underlying3 h1
  have ha' : [c0] = _ := ha
  have hb' : [c1] = _ := hb
  simp only [List.cons.injEq, and_true] at ha' hb'
  exact ⟨a, b, by rw [ha', hb']⟩
/-- An entry. -/
theorem open_91 {fuel : Nat} {cs : List Value} {x : DataW H × List MemPlace} (h : DataW.trod enc Try.prog w base spare held fuel 91 cs = some x) :
    ∃ e : S91, cs = [.int .i64 e.f0, .int .i64 e.f1, .int .i64 e.f2.f0, .int .i64 e.f2.f1] := by
  obtain ⟨xs, n, _, _, hl, hlen, hf⟩ := DataW.trod_struct Try.underlying91 h
  rw [cells_91] at hl
  obtain ⟨c0, c1, c2, c3, rfl⟩ := list4 hl
  obtain ⟨y0, y1, y2, rfl⟩ := list3 hlen
  have h0 := hf 0 _ rfl
  change DataW.trod enc Try.prog w base spare held n 3 (([c0, c1, c2, c3].drop 0).take (Try.prog.cellsOf 3)) = some y0 at h0
  rw [cells_3] at h0
  have h1 := hf 1 _ rfl
  change DataW.trod enc Try.prog w base spare held n 3 (([c0, c1, c2, c3].drop 1).take (Try.prog.cellsOf 3)) = some y1 at h1
  rw [cells_3] at h1
  have h2 := hf 2 _ rfl
  change DataW.trod enc Try.prog w base spare held n 46 (([c0, c1, c2, c3].drop 2).take (Try.prog.cellsOf 46)) = some y2 at h2
  rw [cells_46] at h2
  obtain ⟨a, ha, _, _⟩ := DataW.trod_int Try.underlying3 h0
  obtain ⟨b, hb, _, _⟩ := DataW.trod_int Try.underlying3 h1
  obtain ⟨c, d, hc⟩ := open_46 h2
  have ha' : [c0] = _ := ha
  have hb' : [c1] = _ := hb
  have hc' : [c2, c3] = _ := hc
  simp only [List.cons.injEq, and_true] at ha' hb' hc'
  exact ⟨⟨a, b, ⟨c, d⟩⟩, by rw [ha', hb', hc'.1, hc'.2]⟩
/-- A saying. -/
theorem open_94 {fuel : Nat} {cs : List Value} {x : DataW H × List MemPlace} (h : DataW.trod enc Try.prog w base spare held fuel 94 cs = some x) :
    ∃ e : S94, cs = [.int .i64 e.f0, .int .i64 e.f1.f0, .int .i64 e.f1.f1] := by
  obtain ⟨xs, n, _, _, hl, hlen, hf⟩ := DataW.trod_struct Try.underlying94 h
  rw [cells_94] at hl
  obtain ⟨c0, c1, c2, rfl⟩ := list3 hl
  obtain ⟨y0, y1, rfl⟩ := list2 hlen
  have h0 := hf 0 _ rfl
  change DataW.trod enc Try.prog w base spare held n 3 (([c0, c1, c2].drop 0).take (Try.prog.cellsOf 3)) = some y0 at h0
  rw [cells_3] at h0
  have h1 := hf 1 _ rfl
  change DataW.trod enc Try.prog w base spare held n 46 (([c0, c1, c2].drop 1).take (Try.prog.cellsOf 46)) = some y1 at h1
  rw [cells_46] at h1
  obtain ⟨a, ha, _, _⟩ := DataW.trod_int Try.underlying3 h0
  obtain ⟨c, d, hc⟩ := open_46 h1
  have ha' : [c0] = _ := ha
  have hc' : [c1, c2] = _ := hc
  simp only [List.cons.injEq, and_true] at ha' hc'
  exact ⟨⟨a, ⟨c, d⟩⟩, by rw [ha', hc'.1, hc'.2]⟩
/-- A row whose elements open. -/
theorem open_row {α : Type} (d : Kd α) {t e : TypeId} (ht : Try.prog.underlying t = some (.slice e)) (hC : Try.prog.cellsOf e = d.sz)
    (ho : ∀ (fuel : Nat) (cs : List Value) (x : DataW H × List MemPlace), DataW.trod enc Try.prog w base spare held fuel e cs = some x → ∃ y : α, d.K w y cs)
    {fuel : Nat} {v : Value} {x : DataW H × List MemPlace} (h : DataW.trod enc Try.prog w base spare held fuel t [v] = some x) :
    ∃ (A : Option Addr) (c : Nat) (l : List α), v = .slice A l.length c ∧ Kd.C d w A l.length l ∧ l.length ≤ c := by
  rcases open_slice ht h with ⟨hcs, _⟩ | ⟨a, len, cap, m, n, D, Pl, hcs, hb, hl, hm, hmm, hx, hi⟩
  · simp only [List.cons.injEq, and_true] at hcs
    subst hcs
    exact ⟨none, 0, [], rfl, ⟨rfl, by simp, fun q => absurd q (by simp)⟩, by simp⟩
  · simp only [List.cons.injEq, and_true] at hcs
    subst hcs
    have hlm : len ≤ m := by rw [hmm]; split <;> omega
    have hcell : ∀ i : Nat, i < len → ∃ y : α, ∃ cs', w.cells? base (a.add (i * d.sz)) d.sz = some cs' ∧ d.K w y cs' := fun i hil => by
      obtain ⟨cs', h1, h2⟩ := hi i (by omega)
      rw [hC] at h1
      obtain ⟨y, hy⟩ := ho _ _ _ h2
      exact ⟨y, cs', h1, hy⟩
    have hsel : ∀ j, j ≤ len → ∃ l : List α, l.length = j ∧ ∀ (i : Nat) (y : α), l[i]? = some y → ∃ cs', w.cells? base (a.add (i * d.sz)) d.sz = some cs' ∧ d.K w y cs' := by
      intro j
      induction j with
      | zero => exact fun _ => ⟨[], rfl, fun i y hy => by simp at hy⟩
      | succ j ih =>
        intro hj
        obtain ⟨l, hll, hlr⟩ := ih (by omega)
        obtain ⟨y, cs', h1, h2⟩ := hcell j (by omega)
        refine ⟨l ++ [y], by simp [hll], fun i z hz => ?_⟩
        by_cases hij : i < j
        · rw [List.getElem?_append_left (by omega)] at hz
          exact hlr i z hz
        · rw [List.getElem?_append_right (by omega)] at hz
          have hi0 : i = j := by
            by_cases q : i - l.length = 0
            · omega
            · obtain ⟨q', hq'⟩ : ∃ q', i - l.length = q' + 1 := ⟨i - l.length - 1, by omega⟩
              rw [hq'] at hz
              simp at hz
          subst hi0
          rw [show i - l.length = 0 by omega] at hz
          simp only [List.getElem?_cons_zero, Option.some.injEq] at hz
          subst hz
          exact ⟨cs', h1, h2⟩
    obtain ⟨l, hll, hlr⟩ := hsel len (Nat.le_refl _)
    refine ⟨some a, cap, l, by rw [hll], ⟨rfl, ?_, fun _ => ⟨a, rfl, fun j p hp => ?_⟩⟩, by omega⟩
    · have : cap ≤ 9223372036854775807 := hm
      omega
    · obtain ⟨cs', h1, h2⟩ := hlr j p hp
      obtain ⟨_, hcl, hat⟩ := World.cells?_some h1
      refine ⟨cs', hcl, h2, fun i u hu => ?_⟩
      have hil : i < d.sz := by rw [← hcl]; exact (List.getElem?_eq_some_iff.1 hu).1
      rw [← Go.Deep.add_add, hat i hil, hu]
set_option maxRecDepth 100000 in
theorem open_slate {r : Reach} {b0 : Nat} {v : Value} {d : DataW H} {p : List MemPlace} (hv : Value.okWide Try.prog w r b0 25 v) (h : DataW.Trod enc Try.prog w base spare held 25 v d p) :
    ∃ (n : Int) (A1 : Option Addr) (c1 : Nat) (l1 : List S91) (A2 : Option Addr) (c2 : Nat) (l2 : List S94), v = .agg #[.int .i64 n, .slice A1 l1.length c1, .slice A2 l2.length c2] ∧
      Kd.C k91 w A1 l1.length l1 ∧ l1.length ≤ c1 ∧ Kd.C k94 w A2 l2.length l2 ∧ l2.length ≤ c2 ∧ (Lit.int .i64 n).wf = true := by
  obtain ⟨v0, v1, v2, y0, y1, y2, n, rfl, _, _, h0, h1, h2⟩ := open_agg3 Try.underlying25 one25 cells_25 hv h
  obtain ⟨a, ha, _, hwf⟩ := DataW.trod_int Try.underlying3 h0
  simp only [List.cons.injEq, and_true] at ha
  subst ha
  obtain ⟨A1, c1, l1, rfl, q1, q2⟩ := open_row k91 Try.underlying22 cells_91 (fun fuel cs x hx => by
    obtain ⟨e, rfl⟩ := open_91 hx
    exact ⟨e, k91_mk w e⟩) h1
  obtain ⟨A2, c2, l2, rfl, q3, q4⟩ := open_row k94 Try.underlying23 cells_94 (fun fuel cs x hx => by
    obtain ⟨e, rfl⟩ := open_94 hx
    exact ⟨e, k94_mk w e⟩) h2
  exact ⟨a, A1, c1, l1, A2, c2, l2, rfl, q1, q2, q3, q4, hwf⟩
end
end Go.Proofs.Ytncaadckehikpaa.Q
namespace Go.Proofs.Ytncaadckehikpaa.soapFirst
open Go.ChangeShapes Go.WideShapes Go.ChangeAt Go.RowKit
set_option linter.unusedVariables false
theorem own : ownKnob Try.prog.godebug = none := by kernel_rfl
theorem laidOut : laidOutB Try.prog = true := by kernel_rfl
set_option maxRecDepth 100000 in
theorem lifted (os : Os) (started : os.Started) (H : Type) (enc : TypeId × Value → H) :
    ReturnsInHanded {} Try.checked os 15 .any (Rows.soapFirstSpec.pre6 enc Try.prog Try.f15 Rows.soapFirstRow.domain false) (Rows.soapFirstSpec.post enc Try.prog Try.f15 false true false false) := by
  refine returnsInHanded_of_change_sized (C := Try.checked) own started (by kernel_rfl) Try.func15
    (ChangeSpec.witness6 (enc := enc) (C := Try.checked) false ⟨#[], #[.agg #[.int .i64 0, .slice none 0 0, .slice none 0 0]], []⟩ 8 (by kernel_rfl) (by kernel_rfl) (by kernel_rfl) (by kernel_rfl)) ?_
  intro W base args ds gs before hval0 hW hcnd hsz0 _
  have hval : ∀ (j : Nat) t v, Try.f15.params[j]? = some t → args[j]? = some v → Value.okWide Try.prog W .any base t v := hval0
  have hW' := hW
  obtain ⟨p, q, hA0, hV, rfl, hfz, hnd⟩ := hW
  have hA : DataW.TrodAll enc Try.prog W 0 (fun _ => true) true Try.f15.params.toList args.toList ds p := hA0
  rw [Try.params15] at hA hval
  obtain ⟨v0, vs0, d0, ds0, p0, q0, hargs, rfl, rfl, h0, r0⟩ := trodAll_cons hA
  obtain ⟨rfl, rfl, rfl⟩ := trodAll_nil r0
  obtain rfl : args = #[v0] := by cases args; simp_all
  obtain ⟨rfl, rfl⟩ := trodVars_none hV
  have k0 := h0
  have lt0 : ∀ x ∈ p0, x.block < W.heap.size := by obtain ⟨m, hm⟩ := k0; exact DataW.trod_lt m _ _ _ hm
  obtain ⟨n0, A0a, c0a, l0a, A0b, c0b, l0b, rfl, hr0a, hc0a, hr0b, hc0b, hwf0⟩ := Q.open_slate (hval 0 25 v0 rfl rfl) h0
  clear hA0 hval0 hsz0
  refine (Q.soapFirst_calls n0 A0a c0a l0a A0b c0b l0b W hr0a hc0a hr0b hc0b).mono fun e W' ⟨he, bel⟩ => ?_
  subst he
  exact ⟨_, rfl, _, _, _, [], _, [], hW', trodAll_mk1 (shut_bool Try.underlying4 _), (trodAll_cons_mk (Below.trod laidOut (by kernel_rfl) (of_decide_eq_true (by kernel_rfl)) k0 bel lt0) trodAll_mk0), rfl, bel.frame _, fun h => by cases h⟩
theorem over : Rows.soapFirstRow.holds Try.pinned (OpenSpec.ofChange Rows.soapFirstSpec) :=
  OpenClaim.holds_of_wide 15 Try.f15 rfl rfl rfl rfl rfl rfl rfl ⟨rfl, rfl, rfl, rfl, rfl⟩ rfl rfl rfl rfl rfl (by kernel_rfl) Try.func15 (by kernel_rfl)
    (of_decide_eq_true (by kernel_rfl)) (by unfold Func.isWrapper; first | (rw [if_pos (by decide +kernel)]; kernel_rfl) | (rw [if_neg (by decide +kernel)]; exact ⟨rfl, rfl⟩))
    (fun os started H enc _ => lifted os started H enc)
end Go.Proofs.Ytncaadckehikpaa.soapFirst
namespace Go.Proofs.Ytncaadckehikpaa
/-- The statement. -/
theorem soapFirst_holds : Rows.SoapFirstSaid := soapFirst.over
end Go.Proofs.Ytncaadckehikpaa
