/- A part of the proof: contracts of functions and plain facts (HLeave0, HLeave, HFour). No condition. -/
import Derived.Test.YtncaadckehikpaaM22
import Derived.Test.YtncaadckehikpaaM9
import Derived.Test.YtncaadckehikpaaM19
import Derived.Test.YtncaadckehikpaaM7
import Derived.Test.YtncaadckehikpaaM11
namespace Go.Proofs.Ytncaadckehikpaa.Q
open Go.RowKit Go.Proofs.YtncaadckehikpaaW.PrintWords Go.Proofs.YtncaadckehikpaaW.PrintLast Go.Proofs.YtncaadckehikpaaW.PrintMore
set_option linter.unusedVariables false
set_option linter.unusedSimpArgs false
/-- The choices of some more numbers below len, from a number on, in order. -/
def combosL (len : Nat) : Nat → List Int → Int → List (List Int)
  | 0, out, _ => [out]
  | lf + 1, out, fr => (List.range ((len : Int) - lf - fr).toNat).flatMap (fun k : Nat => combosL len lf (out ++ [fr + (k : Int)]) (fr + (k : Int) + 1))
def z49 (len lf : Nat) (out : List Int) (fr : Int) (k : Nat) : List (List Int) := (List.range k).flatMap (fun k : Nat => combosL len lf (out ++ [fr + (k : Int)]) (fr + (k : Int) + 1))
theorem combosTo_succ (len lf : Nat) (out : List Int) (fr : Int) (k : Nat) : z49 len lf out fr (k + 1) = z49 len lf out fr k ++ combosL len lf (out ++ [fr + (k : Int)]) (fr + (k : Int) + 1) := by simp [z49, List.range_succ]
theorem combosL_succ (len lf : Nat) (out : List Int) (fr : Int) : combosL len (lf + 1) out fr = z49 len lf out fr ((len : Int) - lf - fr).toNat := rfl
theorem combosTo_more (len lf : Nat) (out : List Int) (fr : Int) (k n : Nat) (h : k ≤ n) : ∃ r, z49 len lf out fr n = z49 len lf out fr k ++ r := by
  induction n with
  | zero => obtain rfl : k = 0 := by omega
            exact ⟨[], by simp⟩
  | succ n ih =>
    rcases Nat.lt_or_ge k (n + 1) with hl | hl
    · obtain ⟨r, hr⟩ := ih (by omega)
      exact ⟨r ++ combosL len lf (out ++ [fr + (n : Int)]) (fr + (n : Int) + 1), by rw [combosTo_succ, hr, List.append_assoc]⟩
    · obtain rfl : k = n + 1 := by omega
      exact ⟨[], by simp⟩
/-- What lies in the closure's boxes. -/
structure LeaveSt (w0 : World) (sb cb hb : Nat) (n : Int) (A1 : Option Addr) (c1 : Nat) (l1 : List S122) (A2 : Option Addr) (c2 : Nat) (l2 : List S124) (W : World) : Prop where
  below : Below w0.heap.size w0 W
  slate : W.heap[sb]? = some (.cells #[.int .i64 n, .slice A1 l1.length c1, .slice A2 l2.length c2] 35 (0, 0))
  chosen : ∃ v, W.heap[cb]? = some (.cells #[v] 37 (0, 0))
  choose : W.heap[hb]? = some (.cells #[.func (.func 85) #[] #[.pointer (some ⟨cb, 0, none⟩), .pointer (some ⟨sb, 0, none⟩), .pointer (some ⟨hb, 0, none⟩)]] 135 (0, 0))
theorem LeaveSt.belowW {w0 : World} {sb cb hb : Nat} {n : Int} {A1 : Option Addr} {c1 : Nat} {l1 : List S122} {A2 : Option Addr} {c2 : Nat} {l2 : List S124} {W W' : World} (h : LeaveSt w0 sb cb hb n A1 c1 l1 A2 c2 l2 W) (hb' : Below W.heap.size W W') : LeaveSt w0 sb cb hb n A1 c1 l1 A2 c2 l2 W' := by
  obtain ⟨v, hv⟩ := h.chosen
  exact ⟨z16 h.below hb', blk_below h.slate hb', ⟨v, blk_below hv hb'⟩, blk_below h.choose hb'⟩
theorem LeaveSt.but {w0 : World} {sb cb hb : Nat} {n : Int} {A1 : Option Addr} {c1 : Nat} {l1 : List S122} {A2 : Option Addr} {c2 : Nat} {l2 : List S124} {W W' : World} (h : LeaveSt w0 sb cb hb n A1 c1 l1 A2 c2 l2 W) (hb' : But cb W W') (hc : ∃ v, W'.heap[cb]? = some (.cells #[v] 37 (0, 0))) (h1 : w0.heap.size ≤ cb) (h2 : sb ≠ cb) (h3 : hb ≠ cb) : LeaveSt w0 sb cb hb n A1 c1 l1 A2 c2 l2 W' :=
  ⟨⟨hb'.os.trans h.below.os, hb'.tape.trans h.below.tape, hb'.output.trans h.below.output, Nat.le_trans h.below.size hb'.size, fun k hk => (hb'.block k (by have := h.below.size; omega) (by omega)).trans (h.below.block k hk)⟩,
   hb'.keeps h.slate h2, hc, hb'.keeps h.choose h3⟩
theorem R_but37 {W W' : World} {cb b0 : Nat} {v u : Value} {xs : List Int} (h : Kd.R (Kd.int .i64) 3 W b0 (fun _ => True) v xs) (hc : W.heap[cb]? = some (.cells #[u] 37 (0, 0))) (hb : But cb W W') : Kd.R (Kd.int .i64) 3 W' b0 (fun _ => True) v xs :=
  Kd.R_mono (Kd.R_step (Kd.R_types h hc (by decide)) (fun k hk hl => hb.block k hl hk.2)) (fun _ _ => trivial)
/-- What the closure's call comes to. -/
def LeavePost (w0 : World) (sb cb hb : Nat) (b0 : Nat) (l1 : List S122) (l2 : List S124) (cs : List (List Int)) (W : World) (e : Ending) (W' : World) : Prop :=
  ∃ b, e = .returned (.bool b) ∧ But cb W W' ∧ (b = true → ∃ v o, cs.find? (possB l1 l2) = some o ∧ W'.heap[cb]? = some (.cells #[v] 37 (0, 0)) ∧ Kd.R (Kd.int .i64) 3 W' b0 (fun _ => True) v o) ∧
    (b = false → cs.find? (possB l1 l2) = none ∧ ∃ v, W'.heap[cb]? = some (.cells #[v] 37 (0, 0)))
set_option maxHeartbeats 4000000 in
set_option maxRecDepth 100000 in
theorem leave1_calls (w0 : World) (sb cb hb b0 : Nat) (n : Int) (A1 : Option Addr) (c1 : Nat) (l1 : List S122) (A2 : Option Addr) (c2 : Nat) (l2 : List S124) (hck : checkS n l1 l2 = 0)
    (hr1 : Kd.C k122 w0 A1 l1.length l1) (hc1 : l1.length ≤ c1) (hr2 : Kd.C k124 w0 A2 l2.length l2) (hc2 : l2.length ≤ c2) (h1 : w0.heap.size ≤ cb) (h2 : sb ≠ cb) (h3 : hb ≠ cb) :
    ∀ (lf : Nat) (out : List Int) (v : Value) (fr left : Int) (W : World), left = (lf : Int) → 0 ≤ fr → fr ≤ 6 → out.length + lf ≤ 5 → LeaveSt w0 sb cb hb n A1 c1 l1 A2 c2 l2 W → Kd.R (Kd.int .i64) 3 W b0 (fun _ => True) v out → b0 ≤ W.heap.size →
    Calls Try.prog 85 #[v, .int .i64 fr, .int .i64 left, .pointer (some ⟨cb, 0, none⟩), .pointer (some ⟨sb, 0, none⟩), .pointer (some ⟨hb, 0, none⟩)] W (LeavePost w0 sb cb hb b0 l1 l2 (combosL l2.length lf out fr) W) := by
  intro lf
  have hu35 := Try.underlying35
  have HR1 := mkA hr1
  have HR2 := mkA hr2
  have HCK := mkA hck
  obtain ⟨z0, z1, z2, z3, z4, z5, z6⟩ := z28 hck
  clear hr1 hr2 hck z4 z5 z6
  induction lf with
  | zero =>
    intro out v fr left W hle hf0 hf6 hol hst hR hb0
    obtain rfl : left = 0 := by omega
    clear hle
    obtain ⟨A, c, rfl, hlc, hC⟩ := Kd.R_reads hR
    obtain ⟨u, hu⟩ := hst.chosen
    have HST := mkA hst
    have HR := mkA hR
    have HU := mkA hu
    have k0 : W.cell? ⟨sb, 0, none⟩ = some (.int .i64 n) := (z12 hst.slate 0).trans rfl
    have k1 : W.cell? ⟨sb, 1, none⟩ = some (.slice A1 l1.length c1) := (z12 hst.slate 1).trans rfl
    have k2 : W.cell? ⟨sb, 2, none⟩ = some (.slice A2 l2.length c2) := (z12 hst.slate 2).trans rfl
    have k3 : W.cell? ⟨cb, 0, none⟩ = some u := (z12 hu 0).trans rfl
    have k4 : W.frozen? ⟨cb, 0, none⟩ = false := z14 hu _
    obtain ⟨W2, hW2⟩ : ∃ W2, W.setCell ⟨cb, 0, none⟩ (.slice A out.length c) = W2 := ⟨_, rfl⟩
    have hbut : But cb W W2 := by
      rw [← hW2]
      exact ⟨rfl, rfl, rfl, by simp [World.setCell], fun k _ hk => Below.heap_setCell _ _ _ _ hk⟩
    have hc2' : W2.heap[cb]? = some (.cells #[.slice A out.length c] 37 (0, 0)) := by rw [← hW2]; simp [World.setCell, Array.getElem?_modify, hu]
    have HRW := mkA (R_but37 hR hu hbut)
    have hst2 := hst.but hbut ⟨_, hc2'⟩ h1 h2 h3
    have m0 : W2.cell? ⟨sb, 0, none⟩ = some (.int .i64 n) := (z12 hst2.slate 0).trans rfl
    have m1 : W2.cell? ⟨sb, 1, none⟩ = some (.slice A1 l1.length c1) := (z12 hst2.slate 1).trans rfl
    have m2 : W2.cell? ⟨sb, 2, none⟩ = some (.slice A2 l2.length c2) := (z12 hst2.slate 2).trans rfl
    have HPC := mkA (possible_calls n A1 c1 l1 A2 c2 l2 A c out W2 HCK.out (Kd.C_below HR1.out hst2.below) hc1 (Kd.C_below HR2.out hst2.below) hc2 (Kd.R_reads' HRW.out).2.2 hlc (by omega))
    have HBU := mkA hbut
    have HC2 := mkA hc2'
    clear hst hR hu hbut hst2 hc2' hC
    go_enter Try.func85, Try.ntmps85
    go_wp2_with fail
    clear hW2
    refine HPC.out.mono ?_
    rintro e w3 ⟨rfl, hb⟩
    have HB3 := mkA hb
    clear hb HPC m0 m1 m2 k0 k1 k2 k3 k4
    go_wp2
    go_ret
    refine ⟨_, rfl, HBU.out.trans (But.of_below HB3.out), fun h => ?_, fun h => ?_⟩
    · exact ⟨_, out, by simp [combosL, h], blk_below HC2.out HB3.out, Kd.R_below HRW.out HB3.out⟩
    · exact ⟨by simp [combosL, h], _, blk_below HC2.out HB3.out⟩
  | succ lf ih =>
    intro out v fr left W hle hf0 hf6 hol hst hR hb0
    obtain ⟨A, c, rfl, hlc, hC⟩ := Kd.R_reads hR
    have HST := mkA hst
    have HR := mkA hR
    have HIH := mkA ih
    have g1 : (left == 0) = false := beq_eq_false_iff_ne.2 (by omega)
    obtain ⟨m, hm⟩ : ∃ m : Int, (l2.length : Int) - left = m := ⟨_, rfl⟩
    have hwr : wrap64 ((l2.length : Int) - left) = m := by unfold wrap64; omega
    have hwr2 : IntKind.i64.wrap ((l2.length : Int) - left) = m := (i64_w _).trans hwr
    have hml : wrap64 (left - 1) = (lf : Int) := by unfold wrap64; omega
    have hml2 : IntKind.i64.wrap (left - 1) = (lf : Int) := (i64_w _).trans hml
    clear hst hR ih hC
    go_enter Try.func85, Try.ntmps85
    go_wp2
    go_loopw [10] (fun i wr => ∃ (g : Nat), i = .int .i64 (fr + (g : Int)) ∧ g ≤ ((l2.length : Int) - lf - fr).toNat ∧ Aside0 (LeaveSt w0 sb cb hb n A1 c1 l1 A2 c2 l2 wr) ∧ Aside0 (Kd.R (Kd.int .i64) 3 wr b0 (fun _ => True) (.slice A out.length c) out) ∧ Aside0 (But cb W wr) ∧ Aside0 ((z49 l2.length lf out fr g).find? (possB l1 l2) = none)) (fun i _ => (7 - intOf i).toNat)
    case atStart => exact ⟨0, by simp, by omega, HST, HR, ⟨But.refl _ _⟩, ⟨rfl⟩⟩
    case round =>
      obtain ⟨g, rfl, hg, HS, HRO, HBU, HF⟩ := hrel
      have hs1 : wr.cell? ⟨sb, 2, none⟩ = some (.slice A2 l2.length c2) := (z12 HS.out.slate 2).trans rfl
      have hsz := HBU.out.size
      by_cases hlt : fr + (g : Int) ≤ m
      · have g2 : decide (fr + (g : Int) ≤ m) = true := decide_eq_true hlt
        go_wp2
        have hw1 : IntKind.i64.wrap (fr + (g : Int) + 1) = fr + (g : Int) + 1 := by rw [i64_w]; unfold wrap64; omega
        have hw2 : IntKind.i64.wrap (lf : Int) = (lf : Int) := by rw [i64_w]; unfold wrap64; omega
        have HSQ := mkA (HS.out.belowW (z13 (Below.refl _ wr)))
        have HRQ := mkA (Kd.R_drew HRO.out)
        have HBQ := mkA (show b0 ≤ wr.drew.heap.size from Nat.le_trans hb0 hsz)
        have HKS := mkA (fun (W' : World) (hb' : Below wr.drew.heap.size wr.drew W') => show W'.cell? ⟨hb, 0, none⟩ = some (.func (.func 85) #[] #[.pointer (some ⟨cb, 0, none⟩), .pointer (some ⟨sb, 0, none⟩), .pointer (some ⟨hb, 0, none⟩)]) from (z12 (blk_below HSQ.out.choose hb') 0).trans rfl)
        have HKB := mkA (fun {W' : World} (V : World) (hb' : Below wr.drew.heap.size wr.drew W') (hbu : But cb W' V) => show V.cell? ⟨hb, 0, none⟩ = some (.func (.func 85) #[] #[.pointer (some ⟨cb, 0, none⟩), .pointer (some ⟨sb, 0, none⟩), .pointer (some ⟨hb, 0, none⟩)]) from (z12 (hbu.keeps (blk_below HSQ.out.choose hb') h3) 0).trans rfl)
        have hC := (Kd.R_reads' HRQ.out).2.2
        have HCL1 := mkA (clone_calls A c out wr.drew hC hlc (by omega))
        have HCL2 := mkA (clone_calls A c out (wr.alloc (.cells #[.int .i64 (fr + (g : Int))] 3)).drew (Kd.C_below hC (show Below wr.drew.heap.size wr.drew (wr.alloc (.cells #[.int .i64 (fr + (g : Int))] 3)).drew from z10 (Below.refl wr.drew.heap.size wr.drew) (.cells #[.int .i64 (fr + (g : Int))] 3))) hlc (by omega))
        have HBB := mkA (show Below wr.drew.heap.size wr.drew (wr.alloc (.cells #[.int .i64 (fr + (g : Int))] 3)).drew from z10 (Below.refl wr.drew.heap.size wr.drew) (.cells #[.int .i64 (fr + (g : Int))] 3))
        have HXA := mkA (show (wr.alloc (.cells #[.int .i64 (fr + (g : Int))] 3)).drew.heap[wr.drew.heap.size]? = some (.cells #[.int .i64 (fr + (g : Int))] 3 (0, 0)) from z19 wr.drew (.cells #[.int .i64 (fr + (g : Int))] 3))
        clear hC
        focus
          refine wp_region_held_drew (S := (fun W' => W'.cell? ⟨hb, 0, none⟩ = some (.func (.func 85) #[] #[.pointer (some ⟨cb, 0, none⟩), .pointer (some ⟨sb, 0, none⟩), .pointer (some ⟨hb, 0, none⟩)]))) (by kernel_rfl) ?_ (fun hHeld => ?_)
          · (try dsimp only); exact HKS.out _ (Below.refl _ _)
          refine tk (v := ?_) 0 hHeld rfl (by kernel_rfl) (fun _ _ _ h => h) (Or.inl ⟨?tkh, ?tky⟩) ?_
          case tkh => rfl
          case tky => intro w hSw; (try dsimp only at hSw); go_simp; (try with_reducible rfl)
          try simp only [Act.put, xq1, xq2, xq3]
          refine tk (v := ?_) 1 hHeld rfl (by kernel_rfl) (fun _ _ _ h => h) (Or.inl ⟨?tkh, ?tky⟩) ?_
          case tkh => rfl
          case tky => intro w hSw; (try dsimp only at hSw); go_simp; (try with_reducible rfl)
          try simp only [Act.put, xq1, xq2, xq3]
          refine tk (v := ?_) 3 hHeld rfl (by kernel_rfl) (fun _ _ _ h => h) (Or.inl ⟨?tkh, ?tky⟩) ?_
          case tkh => rfl
          case tky => intro w hSw; (try dsimp only at hSw); go_simp; (try with_reducible rfl)
          try simp only [Act.put, xq1, xq2, xq3]
          refine tk (v := ?_) 6 hHeld rfl (by kernel_rfl) (fun _ _ _ h => h) (Or.inl ⟨?tkh, ?tky⟩) ?_
          case tkh => rfl
          case tky => intro w hSw; (try dsimp only at hSw); go_simp; (try with_reducible rfl)
          try simp only [Act.put, xq1, xq2, xq3]
          refine tk (v := ?_) 7 hHeld rfl (by kernel_rfl) (fun _ _ _ h => h) (Or.inl ⟨?tkh, ?tky⟩) ?_
          case tkh => rfl
          case tky => intro w hSw; (try dsimp only at hSw); go_simp; (try with_reducible rfl)
          try simp only [Act.put, xq1, xq2, xq3]
          refine tk (v := ?_) 8 hHeld rfl (by kernel_rfl) (fun _ _ _ h => h) (Or.inl ⟨?tkh, ?tky⟩) ?_
          case tkh => rfl
          case tky => intro w hSw; (try dsimp only at hSw); go_simp; (try with_reducible rfl)
          try simp only [Act.put, xq1, xq2, xq3]
          refine tk (v := ?_) 9 hHeld rfl (by kernel_rfl) (fun _ _ _ h => h) (Or.inl ⟨?tkh, ?tky⟩) ?_
          case tkh => rfl
          case tky => intro w hSw; (try dsimp only at hSw); go_simp; (try with_reducible rfl)
          try simp only [Act.put, xq1, xq2, xq3]
          refine wpAnyH_ready (rs := [2, 4]) (by kernel_rfl) (by simp) (cs rfl (fun K hK => ?_) (cs rfl (fun K hK => ?_) AllReadyH.nil))
          go_simp
          ((go_at_call 86; (with_reducible refine HCL1.out.mono ?_); rintro e w4 ⟨v4, rfl, hr4, hb4⟩; have R4a := mkA hr4; have HB4a := mkA hb4; clear hr4 hb4; dsimp only))
          try simp only [Act.put, xq1, xq2, xq3]
          refine hK.out _ _ ?_ (fun hHeld2 => ?_)
          · (try dsimp only); exact HKS.out _ HB4a.out
          clear hK K hHeld; have hHeld := hHeld2; clear hHeld2
          refine wpAnyH_ready (rs := [4]) (by kernel_rfl) (by simp) (cs rfl (fun K hK => ?_) AllReadyH.nil)
          go_simp
          try simp only [Act.put, xq1, xq2, xq3]
          refine hK.out _ _ ?_ (fun hHeld2 => ?_)
          · (try dsimp only); exact HKS.out _ (z10 HB4a.out _)
          clear hK K hHeld; have hHeld := hHeld2; clear hHeld2
          refine wpAnyH_ready (rs := [5]) (by kernel_rfl) (by simp) (cs rfl (fun K hK => ?_) AllReadyH.nil)
          ((refine Kd.R_append_rows_step (Kd.int .i64) (w0 := wr.drew) wr.drew.heap.size (by rfl) (.tmp 29) (.tmp 31) 37 3 (.int .i64 0) 8 rfl Try.underlying37 info3 rfl (by decide) (by omega) v4 out [fr + (g : Int)] (some ⟨w4.heap.size, 0, none⟩) 1 1 (fun _ => True) (fun _ => False) ?r1 ?r2 ?aO ?aR (fun _ _ h => h) (fun _ h => h.elim) ?aF ?aB ?aS ?aL ?_; (case r1 => rfl); (case r2 => rfl); (case aO => exact (Kd.R_alloc R4a.out _)); (case aR => exact (C_ints [fr + (g : Int)] (by simp) (z19 w4 _))); (case aF => exact (fun _ _ => trivial)); (case aB => exact (z10 HB4a.out _)); (case aS => exact (z10 HB4a.out _).size); (case aL => omega); intro v5 w5 ho hb' hg hat; have HO5 := mkA ho; have HB5 := mkA hb'; clear ho hb' hg hat))
          try simp only [Act.put, xq1, xq2, xq3]
          refine hK.out _ _ ?_ (fun hHeld2 => ?_)
          · (try dsimp only); exact HKS.out _ HB5.out
          clear hK K hHeld; have hHeld := hHeld2; clear hHeld2
          refine wpAnyH_ready (rs := [10]) (by kernel_rfl) (by simp) (cs rfl (fun K hK => ?_) AllReadyH.nil)
          go_simp
          ((go_at_call 85; (with_reducible refine (HIH.out (out ++ [fr + (g : Int)]) v5 (fr + (g : Int) + 1) (lf : Int) w5 rfl (by omega) (by omega) (by simp; omega) (HSQ.out.belowW HB5.out) (Kd.R_lower HO5.out HBQ.out) (Nat.le_trans HBQ.out HB5.out.size)).mono ?_); rintro e w6 ⟨b, rfl, hbu, ht, hf⟩; have HBU6 := mkA hbu; have HT6 := mkA ht; have HF6 := mkA hf; clear hbu ht hf; dsimp only))
          try simp only [Act.put, xq1, xq2, xq3]
          refine hK.out _ _ ?_ (fun hHeld2 => ?_)
          · (try dsimp only); exact HKB.out _ HB5.out HBU6.out
          clear hK K hHeld; have hHeld := hHeld2; clear hHeld2
          refine wpAnyH_done (by kernel_rfl) ?_ _
          rotate_left
          go_simp
          try simp only [Act.put, xq1, xq2, xq3]
          refine hK.out _ _ ?_ (fun hHeld2 => ?_)
          · (try dsimp only); exact HKS.out _ (z10 (Below.refl _ _) _)
          clear hK K hHeld; have hHeld := hHeld2; clear hHeld2
          refine wpAnyH_ready (rs := [2]) (by kernel_rfl) (by simp) (cs rfl (fun K hK => ?_) AllReadyH.nil)
          go_simp
          ((go_at_call 86; (with_reducible refine HCL2.out.mono ?_); rintro e w4 ⟨v4, rfl, hr4, hb4⟩; have R4b := mkA (Kd.R_lower hr4 (show wr.drew.heap.size ≤ (wr.alloc (.cells #[.int .i64 (fr + (g : Int))] 3)).drew.heap.size by simp)); have HX4 := mkA (blk_below HXA.out hb4); have HB4b := mkA (z16 HBB.out hb4); clear hr4 hb4; dsimp only))
          try simp only [Act.put, xq1, xq2, xq3]
          refine hK.out _ _ ?_ (fun hHeld2 => ?_)
          · (try dsimp only); exact HKS.out _ HB4b.out
          clear hK K hHeld; have hHeld := hHeld2; clear hHeld2
          refine wpAnyH_ready (rs := [5]) (by kernel_rfl) (by simp) (cs rfl (fun K hK => ?_) AllReadyH.nil)
          ((refine Kd.R_append_rows_step (Kd.int .i64) (w0 := wr.drew) wr.drew.heap.size (by rfl) (.tmp 29) (.tmp 31) 37 3 (.int .i64 0) 8 rfl Try.underlying37 info3 rfl (by decide) (by omega) v4 out [fr + (g : Int)] (some ⟨wr.drew.heap.size, 0, none⟩) 1 1 (fun _ => True) (fun _ => False) ?r1 ?r2 ?aO ?aR (fun _ _ h => h) (fun _ h => h.elim) ?aF ?aB ?aS ?aL ?_; (case r1 => rfl); (case r2 => rfl); (case aO => exact R4b.out); (case aR => exact (C_ints [fr + (g : Int)] (by simp) HX4.out)); (case aF => exact (fun _ _ => trivial)); (case aB => exact HB4b.out); (case aS => exact HB4b.out.size); (case aL => omega); intro v5 w5 ho hb' hg hat; have HO5 := mkA ho; have HB5 := mkA hb'; clear ho hb' hg hat))
          try simp only [Act.put, xq1, xq2, xq3]
          refine hK.out _ _ ?_ (fun hHeld2 => ?_)
          · (try dsimp only); exact HKS.out _ HB5.out
          clear hK K hHeld; have hHeld := hHeld2; clear hHeld2
          refine wpAnyH_ready (rs := [10]) (by kernel_rfl) (by simp) (cs rfl (fun K hK => ?_) AllReadyH.nil)
          go_simp
          ((go_at_call 85; (with_reducible refine (HIH.out (out ++ [fr + (g : Int)]) v5 (fr + (g : Int) + 1) (lf : Int) w5 rfl (by omega) (by omega) (by simp; omega) (HSQ.out.belowW HB5.out) (Kd.R_lower HO5.out HBQ.out) (Nat.le_trans HBQ.out HB5.out.size)).mono ?_); rintro e w6 ⟨b, rfl, hbu, ht, hf⟩; have HBU6 := mkA hbu; have HT6 := mkA ht; have HF6 := mkA hf; clear hbu ht hf; dsimp only))
          try simp only [Act.put, xq1, xq2, xq3]
          refine hK.out _ _ ?_ (fun hHeld2 => ?_)
          · (try dsimp only); exact HKB.out _ HB5.out HBU6.out
          clear hK K hHeld; have hHeld := hHeld2; clear hHeld2
          refine wpAnyH_done (by kernel_rfl) ?_ _
          rotate_left
        all_goals
          have HBUT := mkA ((HBU.out.trans (But.of_below (z16 (z13 (Below.refl _ wr)) HB5.out))).trans HBU6.out)
          have HR6 := mkA (R_but37 (Kd.R_below HRQ.out HB5.out) (blk_below (HSQ.out.chosen.choose_spec) HB5.out) HBU6.out)
          cases b with
          | true =>
            go_wp2
            go_ret
            obtain ⟨v6, o, f1, f2, f3⟩ := HT6.out (by simp)
            refine ⟨true, rfl, HBUT.out, fun _ => ⟨v6, o, ?_, f2, f3⟩, (fun h => by cases h)⟩
            obtain ⟨r, hr⟩ := combosTo_more l2.length lf out fr (g + 1) ((l2.length : Int) - lf - fr).toNat (by omega)
            rw [combosL_succ, hr, combosTo_succ, List.find?_append, List.find?_append, HF.out, f1]
            rfl
          | false =>
            obtain ⟨f1, f2⟩ := HF6.out (by simp)
            have HF1 := mkA f1
            have HST6 := mkA ((HSQ.out.belowW HB5.out).but HBU6.out f2 h1 h2 h3)
            clear f1 f2
            go_wp2
            go_round
            case measure => simp [intOf]; omega
            case rel =>
              have hfn : (z49 l2.length lf out fr (g + 1)).find? (possB l1 l2) = none := by
                rw [combosTo_succ, List.find?_append, HF.out, HF1.out]
                rfl
              have hfa : ∀ x ∈ z49 l2.length lf out fr (g + 1), possB l1 l2 x = false := by
                intro x hx
                have hnp := List.find?_eq_none.1 hfn x hx
                cases hv : possB l1 l2 x with
                | false => rfl
                | true => exact absurd hv hnp
              exact ⟨g + 1, by omega, by omega, ⟨hfa⟩⟩
      · have g2 : decide (fr + (g : Int) ≤ m) = false := decide_eq_false hlt
        have HE := mkA (show g = ((l2.length : Int) - lf - fr).toNat by omega)
        obtain ⟨u, hu⟩ := HS.out.chosen
        have HU := mkA hu
        clear hu
        go_wp2
        go_ret
        exact ⟨false, rfl, HBU.out, (fun h => by cases h), fun _ => ⟨by rw [combosL_succ, ← HE.out]; exact HF.out, u, HU.out⟩⟩
end Go.Proofs.Ytncaadckehikpaa.Q
namespace Go.Proofs.Ytncaadckehikpaa.Q
open Go.RowKit Go.Proofs.YtncaadckehikpaaW.PrintWords Go.Proofs.YtncaadckehikpaaW.PrintLast Go.Proofs.YtncaadckehikpaaW.PrintMore
set_option linter.unusedVariables false
set_option linter.unusedSimpArgs false
attribute [local go_sem] run_store_func
/-- The choices of at most k sayings less one, in order. -/
def z41 (len k : Nat) : List (List Int) := (List.range k).flatMap (fun j => combosL len j [] 0)
theorem allCombos_succ (len k : Nat) : z41 len (k + 1) = z41 len k ++ combosL len k [] 0 := by simp [z41, List.range_succ]
theorem allCombos_more (len k n : Nat) (h : k ≤ n) : ∃ r, z41 len n = z41 len k ++ r := by
  induction n with
  | zero => obtain rfl : k = 0 := by omega
            exact ⟨[], by simp⟩
  | succ n ih =>
    rcases Nat.lt_or_ge k (n + 1) with hl | hl
    · obtain ⟨r, hr⟩ := ih (by omega)
      exact ⟨r ++ combosL len n [] 0, by rw [allCombos_succ, hr, List.append_assoc]⟩
    · obtain rfl : k = n + 1 := by omega
      exact ⟨[], by simp⟩
def leaveO (l1 : List S122) (l2 : List S124) : Option (List Int) := (z41 l2.length (l2.length + 1)).find? (possB l1 l2)
def soap_Leave.f (a0_0 : Int) (l0_1 : List (S122)) (l0_2 : List (S124)) : Option (List Int × Int) :=
  if checkS a0_0 l0_1 l0_2 = 0 then (leaveO l0_1 l0_2).map (fun o => (o, 0)) else some ([], checkS a0_0 l0_1 l0_2)
set_option maxHeartbeats 4000000 in
set_option maxRecDepth 100000 in
theorem soap_Leave.calls (a0_0 : Int) (A0_1 : Option Addr) (c0_1 : Nat) (l0_1 : List (S122)) (A0_2 : Option Addr) (c0_2 : Nat) (l0_2 : List (S124)) (r1 : List Int) (r2 : Int) (w : World) (hr0_1 : Kd.C k122 w A0_1 l0_1.length l0_1) (hc0_1 : l0_1.length ≤ c0_1) (hr0_2 : Kd.C k124 w A0_2 l0_2.length l0_2) (hc0_2 : l0_2.length ≤ c0_2) (h : soap_Leave.f a0_0 l0_1 l0_2 = some (r1, r2)) :
    Calls Try.prog 40 #[.agg #[.int .i64 a0_0, .slice A0_1 l0_1.length c0_1, .slice A0_2 l0_2.length c0_2]] w fun e w' => ∃ v0_ : Value, e = .returned (.tuple #[v0_, .int .i64 r2]) ∧ Kd.R (Kd.int .i64) 3 w' w.heap.size (fun _ => True) v0_ r1 ∧ Below w.heap.size w w' := by
  have hu35 := Try.underlying35
  have hbw : Below w.heap.size w (w.alloc (.cells #[.int .i64 a0_0, .slice A0_1 l0_1.length c0_1, .slice A0_2 l0_2.length c0_2] 35)) := z10 (Below.refl _ _) _
  have HCK := mkA (soap_CheckSlate.calls a0_0 A0_1 c0_1 l0_1 A0_2 c0_2 l0_2 _ _ (Kd.C_below hr0_1 hbw) hc0_1 (Kd.C_below hr0_2 hbw) hc0_2 rfl)
  have HBW := mkA hbw
  have HS0 := mkA (z19 w (.cells #[.int .i64 a0_0, .slice A0_1 l0_1.length c0_1, .slice A0_2 l0_2.length c0_2] 35))
  have HR1 := mkA hr0_1
  have HR2 := mkA hr0_2
  have HF := mkA h
  clear hr0_1 hr0_2 hbw h
  go_enter Try.func40, Try.ntmps40
  go_wp2_with fail
  refine HCK.out.mono ?_
  rintro e w1 ⟨rfl, hb⟩
  have HB1 := mkA (z16 HBW.out hb)
  have HS1 := mkA (blk_below HS0.out hb)
  clear hb HCK HBW HS0
  by_cases hck : checkS a0_0 l0_1 l0_2 = 0
  · have hf := HF.out
    unfold soap_Leave.f at hf
    rw [if_pos hck] at hf
    have HFF := mkA hf
    have HZ := mkA hck
    have hlt : w.heap.size < w1.heap.size := z22 HS1.out
    have hl5 : l0_2.length ≤ 5 := by obtain ⟨z0, z1, z2, z3, _⟩ := z28 hck; exact z3
    have hs2 : w1.cell? ⟨w.heap.size, 2, none⟩ = some (.slice A0_2 l0_2.length c0_2) := (z12 HS1.out 2).trans rfl
    rw [hck]
    clear hf hck HF
    have HST := mkA (show LeaveSt w w.heap.size w1.heap.size (w1.heap.size + 1) a0_0 A0_1 c0_1 l0_1 A0_2 c0_2 l0_2 ((w1.alloc (.cells #[.slice none 0 0] 37)).alloc (.cells #[.func (.func 85) #[] #[.pointer (some ⟨w1.heap.size, 0, none⟩), .pointer (some ⟨w.heap.size, 0, none⟩), .pointer (some ⟨w1.heap.size + 1, 0, none⟩)]] 135)) from
      ⟨z10 (z10 HB1.out _) _, blk_below HS1.out (z10 (z10 (Below.refl _ _) _) _), ⟨_, blk_below (z19 w1 _) (z10 (Below.refl _ _) _)⟩, by
        have := z19 (w1.alloc (.cells #[.slice none 0 0] 37)) (.cells #[.func (.func 85) #[] #[.pointer (some ⟨w1.heap.size, 0, none⟩), .pointer (some ⟨w.heap.size, 0, none⟩), .pointer (some ⟨w1.heap.size + 1, 0, none⟩)]] 135)
        rw [World.size_alloc] at this
        exact this⟩)
    go_wp2
    go_loopw [18] (fun i wr => ∃ (k : Nat), i = .int .i64 (k : Int) ∧ k ≤ l0_2.length + 1 ∧ Aside0 (LeaveSt w w.heap.size w1.heap.size (w1.heap.size + 1) a0_0 A0_1 c0_1 l0_1 A0_2 c0_2 l0_2 wr) ∧ Aside0 ((z41 l0_2.length k).find? (possB l0_1 l0_2) = none)) (fun i _ => 7 - (intOf i).toNat)
    case atStart => exact ⟨0, rfl, by omega, HST, ⟨rfl⟩⟩
    case round =>
      obtain ⟨k, rfl, hk, HS, HN⟩ := hrel
      by_cases hlk : (k : Int) < (l0_2.length : Int) + 1
      · have g1 : decide ((k : Int) < (l0_2.length : Int) + 1) = true := decide_eq_true hlk
        have k4 : wr.cell? ⟨w1.heap.size + 1, 0, none⟩ = some (.func (.func 85) #[] #[.pointer (some ⟨w1.heap.size, 0, none⟩), .pointer (some ⟨w.heap.size, 0, none⟩), .pointer (some ⟨w1.heap.size + 1, 0, none⟩)]) := (z12 HS.out.choose 0).trans rfl
        have HLC := mkA (leave1_calls w w.heap.size w1.heap.size (w1.heap.size + 1) w.heap.size a0_0 A0_1 c0_1 l0_1 A0_2 c0_2 l0_2 HZ.out HR1.out hc0_1 HR2.out hc0_2 (by omega) (by omega) (by omega) k [] (.slice none 0 0) 0 k wr rfl (by omega) (by omega) (by simp; omega) HS.out (Kd.R_nil _ _ _ _ _) HS.out.below.size)
        go_wp2_with fail
        refine HLC.out.mono ?_
        rintro e w3 ⟨b, rfl, hbu, ht, hf⟩
        have HBU := mkA hbu
        have HT := mkA ht
        have HFA := mkA hf
        clear hbu ht hf HLC
        cases b with
        | true =>
          obtain ⟨v, o, f1, f2, f3⟩ := HT.out rfl
          have hfo : leaveO l0_1 l0_2 = some o := by
            obtain ⟨r, hr⟩ := allCombos_more l0_2.length (k + 1) (l0_2.length + 1) (by omega)
            unfold leaveO
            rw [hr, allCombos_succ, List.find?_append, List.find?_append, HN.out, f1]
            rfl
          have hh := HFF.out
          rw [hfo] at hh
          obtain ⟨rfl, rfl⟩ := Prod.mk.inj (Option.some.inj hh)
          have k5 : w3.cell? ⟨w1.heap.size, 0, none⟩ = some v := (z12 f2 0).trans rfl
          have HF3 := mkA f3
          have HBL := mkA ((HS.out.but HBU.out ⟨_, f2⟩ (by omega) (by omega) (by omega)).below)
          clear f1 f2 f3 hfo hh HT HFA
          go_wp2
          go_ret2
          exact ⟨v, rfl, HF3.out, HBL.out⟩
        | false =>
          obtain ⟨f1, f2⟩ := HFA.out rfl
          have HST3 := mkA (HS.out.but HBU.out f2 (by omega) (by omega) (by omega))
          have hfn : (z41 l0_2.length (k + 1)).find? (possB l0_1 l0_2) = none := by
            rw [allCombos_succ, List.find?_append, HN.out, f1]
            rfl
          have hfa : ∀ x ∈ z41 l0_2.length (k + 1), possB l0_1 l0_2 x = false := by
            intro x hx
            have hnp := List.find?_eq_none.1 hfn x hx
            cases hv : possB l0_1 l0_2 x with
            | false => rfl
            | true => exact absurd hv hnp
          have HFAA := mkA hfa
          have HFN := mkA hfn
          clear f1 f2 hfn hfa HT HFA
          go_wp2
          go_round
          case measure => simp [intOf]; omega
          case rel => first | exact ⟨k + 1, by go_num, by omega, HST3, HFN⟩ | exact ⟨k + 1, by omega, by omega, HST3, HFAA⟩ | exact ⟨k + 1, by omega, by omega, HFAA⟩
      · exfalso
        obtain rfl : k = l0_2.length + 1 := by omega
        have hh := HFF.out
        unfold leaveO at hh
        rw [HN.out] at hh
        cases hh
  · have hf := HF.out
    unfold soap_Leave.f at hf
    rw [if_neg hck] at hf
    obtain ⟨rfl, rfl⟩ := Prod.mk.inj (Option.some.inj hf)
    generalize hqq : checkS a0_0 l0_1 l0_2 = q at hck ⊢
    have HQQ := mkA hqq
    have g1 : (q != 0) = true := bne_iff_ne.2 hck
    clear hf hck hqq HF
    go_wp2
    go_ret2
    exact ⟨_, by rw [HQQ.out]; rfl, Kd.R_nil _ _ _ _ _, HB1.out⟩
end Go.Proofs.Ytncaadckehikpaa.Q
namespace Go.Proofs.Ytncaadckehikpaa.Q
open Go.RowKit Go.Proofs.YtncaadckehikpaaW.PrintWords Go.Proofs.YtncaadckehikpaaW.PrintLast Go.Proofs.YtncaadckehikpaaW.PrintMore
set_option linter.unusedVariables false
set_option linter.unusedSimpArgs false
def fourE : List S122 := [⟨0, 1, ⟨2, 3⟩⟩, ⟨1, 2, ⟨2, 2⟩⟩, ⟨3, 2, ⟨1, 4⟩⟩]
def fourS : List S124 := [⟨2, ⟨-4, -3⟩⟩, ⟨1, ⟨-1, -1⟩⟩, ⟨0, ⟨2, 2⟩⟩]
theorem flat_at {α : Type} (f : α → List Value) (s : Nat) (hl : ∀ x, (f x).length = s) : ∀ (xs : List α) (j : Nat) (p : α) (i : Nat), xs[j]? = some p → i < s → (xs.flatMap f)[j * s + i]? = (f p)[i]?
  | [], _, _, _, h, _ => by simp at h
  | x :: r, 0, p, i, h, hi => by
    simp at h
    subst h
    rw [List.flatMap_cons, Nat.zero_mul, Nat.zero_add, List.getElem?_append_left (by rw [hl]; exact hi)]
  | x :: r, j + 1, p, i, h, hi => by
    rw [List.flatMap_cons, Nat.succ_mul, List.getElem?_append_right (by rw [hl]; omega), hl, show j * s + s + i - s = j * s + i by omega]
    exact flat_at f s hl r j p i (by simpa using h) hi
/-- A block of elements reads as their list. -/
theorem C_block {α : Type} (d : Kd α) (f : α → List Value) {W : World} {g : Nat} {e : TypeId} (hK : ∀ x, d.K W x (f x)) (xs : List α) (hn : xs.length ≤ 9223372036854775807) (h : W.heap[g]? = some (.cells (xs.flatMap f).toArray e (0, 0))) : d.C W (some ⟨g, 0, none⟩) xs.length xs := by
  have hl : ∀ x, (f x).length = d.sz := fun x => d.K_len (hK x)
  refine ⟨rfl, hn, fun _ => ⟨⟨g, 0, none⟩, rfl, fun j p hj => ⟨f p, hl p, hK p, fun i u hi => ?_⟩⟩⟩
  have his : i < d.sz := by
    rw [← hl p]
    exact (List.getElem?_eq_some_iff.1 hi).1
  rw [z43, cell_of_row W g (j * d.sz + i) _ e (0, 0) h]
  have := flat_at f d.sz hl xs j p i hj his
  rw [hi] at this
  simpa using this
def cells122 (x : S122) : List Value := [.int .i64 x.f0, .int .i64 x.f1, .int .i64 x.f2.f0, .int .i64 x.f2.f1]
def cells124 (x : S124) : List Value := [.int .i64 x.f0, .int .i64 x.f1.f0, .int .i64 x.f1.f1]
theorem C_four_E {W : World} {g : Nat} (h : W.heap[g]? = some (.cells #[.int .i64 0, .int .i64 1, .int .i64 2, .int .i64 3, .int .i64 1, .int .i64 2, .int .i64 2, .int .i64 2, .int .i64 3, .int .i64 2, .int .i64 1, .int .i64 4] 122 (0, 0))) : Kd.C k122 W (some ⟨g, 0, none⟩) 3 fourE :=
  C_block k122 cells122 (fun x => k122_mk W x) fourE (by decide) h
theorem C_four_S {W : World} {g : Nat} (h : W.heap[g]? = some (.cells #[.int .i64 2, .int .i64 (-4), .int .i64 (-3), .int .i64 1, .int .i64 (-1), .int .i64 (-1), .int .i64 0, .int .i64 2, .int .i64 2] 124 (0, 0))) : Kd.C k124 W (some ⟨g, 0, none⟩) 3 fourS :=
  C_block k124 cells124 (fun x => k124_mk W x) fourS (by decide) h
set_option maxHeartbeats 2000000 in
set_option maxRecDepth 100000 in
theorem four_calls (k : Int) (hk0 : 0 ≤ k) (hk3 : k ≤ 3) (w : World) :
    Calls Try.prog 70 #[.int .i64 k] w fun e w' => ∃ A1 A2, e = .returned (.agg #[.int .i64 4, .slice A1 3 3, .slice A2 k.toNat 3]) ∧ Kd.C k122 w' A1 3 fourE ∧ Kd.C k124 w' A2 k.toNat (fourS.take k.toNat) ∧ Below w.heap.size w w' := by
  have hu35 := Try.underlying35
  have hu122 := Try.underlying122
  have hu124 := Try.underlying124
  have hu44 := Try.underlying44
  go_enter Try.func70, Try.ntmps70
  go_wp2_with (first | (go_at_call 71; (refine (pl_between.calls (-4) (-3) (-4) (-3) _ rfl).mono ?_); rintro e w1 ⟨rfl, hb⟩; have HB1 := mkA hb; clear hb) | (go_at_call 71; (refine (pl_between.calls (-1) (-1) (-1) (-1) _ rfl).mono ?_); rintro e w2 ⟨rfl, hb⟩; have HB2 := mkA hb; clear hb) | (go_at_call 71; (refine (pl_between.calls 2 2 2 2 _ rfl).mono ?_); rintro e w3 ⟨rfl, hb⟩; have HB3 := mkA hb; clear hb))
  focus
    refine plain_region_head (S := (fun _ => True)) 11 (by kernel_rfl) (by kernel_rfl) ?_ (fun hHeld => ?_)
    · try dsimp only
    try simp only [List.take_succ_cons, List.take_zero, List.drop_succ_cons, List.drop_zero]
    refine tk (v := ?_) 7 hHeld rfl (by kernel_rfl) (fun _ _ _ h => h) (Or.inl ⟨?tkh, ?tky⟩) ?_
    case tkh => rfl
    case tky => intro w hSw; (try dsimp only at hSw); go_simp; (try with_reducible rfl)
    try simp only [Act.put, xq1, xq2, xq3]
    refine tk (v := ?_) 8 hHeld rfl (by kernel_rfl) (fun _ _ _ h => h) (Or.inl ⟨?tkh, ?tky⟩) ?_
    case tkh => rfl
    case tky => intro w hSw; (try dsimp only at hSw); go_simp; (try with_reducible rfl)
    try simp only [Act.put, xq1, xq2, xq3]
    refine tk (v := ?_) 9 hHeld rfl (by kernel_rfl) (fun _ _ _ h => h) (Or.inl ⟨?tkh, ?tky⟩) ?_
    case tkh => rfl
    case tky => intro w hSw; (try dsimp only at hSw); go_simp; (try with_reducible rfl)
    try simp only [Act.put, xq1, xq2, xq3]
    refine wpAnyH_ready (rs := [0]) (by kernel_rfl) (by simp) (cs rfl (fun K hK => ?_) AllReadyH.nil)
    go_simp
    ((go_at_call 71; (with_reducible refine (pl_between.calls 2 3 2 3 _ rfl).mono ?_); rintro e w4 ⟨rfl, hb⟩; have HB4 := mkA hb; clear hb; dsimp only))
    try simp only [Act.put, xq1, xq2, xq3]
    refine hK.out _ _ ?_ (fun hHeld2 => ?_)
    · try dsimp only
    clear hK K hHeld; have hHeld := hHeld2; clear hHeld2
    refine tk (v := ?_) 1 hHeld rfl (by kernel_rfl) (fun _ _ _ h => h) (Or.inl ⟨?tkh, ?tky⟩) ?_
    case tkh => rfl
    case tky => intro w hSw; (try dsimp only at hSw); go_simp; (try with_reducible rfl)
    try simp only [Act.put, xq1, xq2, xq3]
    refine wpAnyH_ready (rs := [2]) (by kernel_rfl) (by simp) (cs rfl (fun K hK => ?_) AllReadyH.nil)
    go_simp
    ((go_at_call 71; (with_reducible refine (pl_between.calls 2 2 2 2 _ rfl).mono ?_); rintro e w5 ⟨rfl, hb⟩; have HB5 := mkA hb; clear hb; dsimp only))
    try simp only [Act.put, xq1, xq2, xq3]
    refine hK.out _ _ ?_ (fun hHeld2 => ?_)
    · try dsimp only
    clear hK K hHeld; have hHeld := hHeld2; clear hHeld2
    refine tk (v := ?_) 3 hHeld rfl (by kernel_rfl) (fun _ _ _ h => h) (Or.inl ⟨?tkh, ?tky⟩) ?_
    case tkh => rfl
    case tky => intro w hSw; (try dsimp only at hSw); go_simp; (try with_reducible rfl)
    try simp only [Act.put, xq1, xq2, xq3]
    refine wpAnyH_ready (rs := [4]) (by kernel_rfl) (by simp) (cs rfl (fun K hK => ?_) AllReadyH.nil)
    go_simp
    ((go_at_call 71; (with_reducible refine (pl_between.calls 1 4 1 4 _ rfl).mono ?_); rintro e w6 ⟨rfl, hb⟩; have HB6 := mkA hb; clear hb; dsimp only))
    try simp only [Act.put, xq1, xq2, xq3]
    refine hK.out _ _ ?_ (fun hHeld2 => ?_)
    · try dsimp only
    clear hK K hHeld; have hHeld := hHeld2; clear hHeld2
    refine tk (v := ?_) 5 hHeld rfl (by kernel_rfl) (fun _ _ _ h => h) (Or.inl ⟨?tkh, ?tky⟩) ?_
    case tkh => rfl
    case tky => intro w hSw; (try dsimp only at hSw); go_simp; (try with_reducible rfl)
    try simp only [Act.put, xq1, xq2, xq3]
    refine wpAnyH_ready (rs := [6]) (by kernel_rfl) (by simp) (cs rfl (fun K hK => ?_) AllReadyH.nil)
    go_simp
    try simp only [Act.put, xq1, xq2, xq3]
    refine hK.out _ _ ?_ (fun hHeld2 => ?_)
    · try dsimp only
    clear hK K hHeld; have hHeld := hHeld2; clear hHeld2
    refine tk (v := ?_) 10 hHeld rfl (by kernel_rfl) (fun _ _ _ h => h) (Or.inl ⟨?tkh, ?tky⟩) ?_
    case tkh => rfl
    case tky => intro w hSw; (try dsimp only at hSw); go_simp; (try with_reducible rfl)
    try simp only [Act.put, xq1, xq2, xq3]
    refine wpAnyH_done (by kernel_rfl) ?_ _
    all_goals (refine EndsBy.mk ?_)
  all_goals
    have b3 := z16 (z16 HB1.out HB2.out) HB3.out
    have hw0 := z19 w (.cells #[.int .i64 0, .slice none 0 0, .slice none 0 0] 35)
    have b6 := z16 (z13 (Below.refl _ _)) (z16 (z16 HB4.out HB5.out) HB6.out)
    have hsay := blk_below (z19 w3 (.cells #[.int .i64 2, .int .i64 (-4), .int .i64 (-3), .int .i64 1, .int .i64 (-1), .int .i64 (-1), .int .i64 0, .int .i64 2, .int .i64 2] 124)) b6
    have b36 : Below w3.heap.size w3 w6 := z16 (z10 (Below.refl _ _) _) b6
    have hres := blk_below (blk_below hw0 b3) b36
    have hbw : Below w.heap.size w w6 := z16 (z16 (z10 (Below.refl _ _) _) b3) b36
    obtain ⟨w7, hw7⟩ : ∃ w7, w6.alloc (.cells #[.int .i64 0, .int .i64 1, .int .i64 2, .int .i64 3, .int .i64 1, .int .i64 2, .int .i64 2, .int .i64 2, .int .i64 3, .int .i64 2, .int .i64 1, .int .i64 4] 122) = w7 := ⟨_, rfl⟩
    have hent : w7.heap[w6.heap.size]? = some (.cells #[.int .i64 0, .int .i64 1, .int .i64 2, .int .i64 3, .int .i64 1, .int .i64 2, .int .i64 2, .int .i64 2, .int .i64 3, .int .i64 2, .int .i64 1, .int .i64 4] 122 (0, 0)) := by rw [← hw7]; exact z19 w6 (.cells #[.int .i64 0, .int .i64 1, .int .i64 2, .int .i64 3, .int .i64 1, .int .i64 2, .int .i64 2, .int .i64 2, .int .i64 3, .int .i64 2, .int .i64 1, .int .i64 4] 122)
    have b67 : Below w6.heap.size w6 w7 := by rw [← hw7]; exact z10 (Below.refl _ _) _
    have hres7 := blk_below hres b67
    have hsay7 := blk_below hsay b67
    have c0 : w7.cell? ⟨w.heap.size, 0, none⟩ = some (.int .i64 0) := (z12 hres7 0).trans rfl
    have c1 : w7.cell? ⟨w.heap.size, 1, none⟩ = some (.slice none 0 0) := (z12 hres7 1).trans rfl
    have c2 : w7.cell? ⟨w.heap.size, 2, none⟩ = some (.slice none 0 0) := (z12 hres7 2).trans rfl
    have f0 : w7.frozen? ⟨w.heap.size, 0, none⟩ = false := z14 hres7 _
    have f1 : w7.frozen? ⟨w.heap.size, 1, none⟩ = false := z14 hres7 _
    have f2 : w7.frozen? ⟨w.heap.size, 2, none⟩ = false := z14 hres7 _
    have HE := mkA hent
    have HSY := mkA hsay7
    have HRS := mkA hres7
    have HBW := mkA (z16 hbw b67)
    have hs3 : w.heap.size < w3.heap.size := z22 (blk_below hw0 b3)
    have hs6 : w.heap.size < w6.heap.size := z22 hres
    rw [hw7]
    clear b3 hw0 b6 hsay b36 hres hbw hw7 hent b67 hres7 hsay7
    go_wp2
    obtain ⟨w9, hw9⟩ : ∃ w9, (((w7.setCell ⟨w.heap.size, 0, none⟩ (.int .i64 4)).setCell ⟨w.heap.size, 1, none⟩ (.slice (some ⟨w6.heap.size, 0, none⟩) 3 3)).setCell ⟨w.heap.size, 2, none⟩ (.slice (some ⟨w3.heap.size, 0, none⟩) k.toNat 3)) = w9 := ⟨_, rfl⟩
    have hk : ∀ j, j ≠ w.heap.size → w9.heap[j]? = w7.heap[j]? := fun j hj => by
      rw [← hw9]
      exact (Below.heap_setCell _ _ _ _ hj).trans ((Below.heap_setCell _ _ _ _ hj).trans (Below.heap_setCell _ _ _ _ hj))
    have hr9 : w9.heap[w.heap.size]? = some (.cells #[.int .i64 4, .slice (some ⟨w6.heap.size, 0, none⟩) 3 3, .slice (some ⟨w3.heap.size, 0, none⟩) k.toNat 3] 35 (0, 0)) := by
      rw [← hw9]; simp [World.setCell, Array.getElem?_modify, HRS.out]
    have hb9 : Below w.heap.size w w9 := by rw [← hw9]; exact z15 (z15 (z15 HBW.out (Nat.le_refl _)) (Nat.le_refl _)) (Nat.le_refl _)
    have e0 : w9.cell? ⟨w.heap.size, 0, none⟩ = some (.int .i64 4) := (z12 hr9 0).trans rfl
    have e1 : w9.cell? ⟨w.heap.size, 1, none⟩ = some (.slice (some ⟨w6.heap.size, 0, none⟩) 3 3) := (z12 hr9 1).trans rfl
    have e2 : w9.cell? ⟨w.heap.size, 2, none⟩ = some (.slice (some ⟨w3.heap.size, 0, none⟩) k.toNat 3) := (z12 hr9 2).trans rfl
    rw [hw9]
    have hct := Kd.C_take (C_four_S ((hk w3.heap.size (by omega)).trans HSY.out)) (show k.toNat ≤ fourS.length by simp [fourS]; omega)
    rw [show (fourS.take k.toNat).length = k.toNat by rw [List.length_take]; simp [fourS]; omega] at hct
    refine bodyPost_ret (v := .agg #[.int .i64 4, .slice (some ⟨w6.heap.size, 0, none⟩) 3 3, .slice (some ⟨w3.heap.size, 0, none⟩) k.toNat 3]) (by simp [results, Try.results70, go_sem, e0, e1, e2]) rfl ⟨_, _, rfl, C_four_E ((hk w6.heap.size (by omega)).trans HE.out), hct, hb9⟩
end Go.Proofs.Ytncaadckehikpaa.Q
